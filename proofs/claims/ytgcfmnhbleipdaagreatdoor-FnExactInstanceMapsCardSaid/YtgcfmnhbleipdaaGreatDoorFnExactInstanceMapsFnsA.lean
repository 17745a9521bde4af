/- What the functions that FnExactInstanceMaps reaches give: for each its contract, what it asks, and the proof. No condition. -/
import Derived.Test.YtgcfmnhbleipdaaGreatDoorTab
import Derived.Shelf.SlSortCmp.NoneTotal
import Derived.Shelf.SlGeneric
import Derived.Ground.SlsfProg
import Derived.LaidEql
import Derived.Stop.Asserts
import Derived.RowKitTokens
import Derived.WalkKit
set_option linter.unusedVariables false
set_option linter.unusedSimpArgs false
namespace Go.Bm
open Go.Proofs
abbrev a0h:=@implies_true
abbrev a2q:=@decide_eq_false_iff_not
abbrev a1a:=@bne_eq_false_iff_eq
abbrev a18:=@Int.lt_irrefl
abbrev a3i:=@Int.sub_zero
abbrev a2b:=@beq_eq_false_iff_ne
abbrev a3y:=@bne_iff_ne
abbrev a13:=@Int.toNat_of_nonneg
abbrev a4i:=@List.mem_filter
abbrev a3j:=@List.foldl_append
abbrev a5e:=@List.length_reverse
abbrev a1y:=@eq_of_beq
abbrev a42:=@List.getD_cons_succ
abbrev but:Type:=((Int×((List Int)×((List Int)×((List Int)×(List (List Int))))))×((List (Int×(List Int)))×(List Int)))
abbrev buu:Type:=(((Int×((List Int)×((List Int)×((List (Int×(List Int)))×(List (Int×(List Int)))))))×((Int×((List Int)×((List Int)×((List Int)×(List (List Int))))))×((List Int)×(List (Int×(List Int))))))×Unit)
abbrev buv:Type:=(Int×(List Int))
abbrev buw:Type:=(Unit×(Int×Unit))
abbrev bux:Type:=((Int×Unit)×Unit)
abbrev buy:Type:=((List buv)×Unit)
abbrev buz:Type:=((List Int)×Unit)
abbrev bu0:Type:=((List Int)×(List buv))
abbrev bu1:Type:=((Int×(Int×Unit))×Unit)
abbrev bu2:Type:=(Unit×(Unit×buw))
abbrev bu3:Type:=((Unit×buw)×(but×(but×Unit)))
abbrev bu4:Type:=(List (List Int))
abbrev bu5:Type:=((Unit×Unit)×buy)
abbrev bu6:Type:=((Unit×buw)×((List Int)×buz))
abbrev bu7:Type:=((List Int)×buu)
abbrev bu8:Type:=(buw×(bu4×Unit))
abbrev bu9:Type:=(bu4×(buv×(buv×Unit)))
abbrev bva:Type:=((Unit×buw)×((List (Int×Int))×buz))
abbrev bvb:Type:=((List Int)×(Int×(buv×Unit)))
abbrev bvc:Type:=(Int×Int×Int×Int)
abbrev bvd:Type:=((Unit×(Unit×(Unit×(Int×(Int×Unit)))))×(but×(but×buz)))
abbrev bve:Type:=(Unit×(Int×(Unit×Unit)))
abbrev bvf:Type:=(bu2×(but×(but×buz)))
abbrev bvg:Type:=((Unit×(Unit×Unit))×((Int×((List Int)×((List Int)×((List buv)×(List buv)))))×buy))
abbrev bvh:Type:=(Int×(Int×Unit))
abbrev bvi:Type:=(Unit×(Unit×Unit))
set_option maxRecDepth 100000
set_option maxHeartbeats 1000000
theorem ctb {Φ : FuncId -> Option Ct} (g : z7 Tryz.prog Φ) {B : Tab} (hB : TabOk Tryz.prog B) (f : FuncId) (fn : Func) (ct : Ct) (A : Ann) (l : List (Nat × Nat)) (h : (Tryz.prog.funcs[f]?, fn.body, fn.name == "runtime.NumGoroutine", ct.ga, orb ct.sh (ajs ct.rt), okC fn.ntmps (aa7 l) (qg fn), Nat.ble ct.ga.length fn.ntmps) = (some fn, some (qg fn), false, agL B fn, true, true, true)) (hu : ct.mu = none) (W : dy ct.args -> (je ct.rt -> Prop) -> Prop) (hw : ∀ x K, evF B Φ (aa7 l) fn (qg fn) A ct x K = W x K) (hm : ∀ x, ab (okL ct.args x) -> ab (ct.pre x) -> W x (fun r => r = ct.res x)) : bn Tryz.prog f ct := by
 simp only[a0j]at h;obtain⟨h1,h2,h3,h4,h5,h6,h7⟩:=h;exact bts g hB (by kernel_rfl) h1 h2 h3 ct hu A (aa7 l) h4 h5 h6 (a15 h7) W hw hm
def kz:Ct:=⟨[(.int .i64),(.int .i64),(.int .i64)],[false,false,false],fun x=>[],[(false,(.fz .bool))],fun x=>(inR x.1 x.2.1 x.2.2.1,()),false,none⟩
def ael(n:Int)(low:Int)(high:Int)(K:Bool×Unit->Prop):Prop:=(K (((decide (low<=n))&&(decide (n<=high))),()))
theorem ax5(n:Int)(low:Int)(high:Int)(hok:ab (okL kz.args (n,low,high,())))(hpre:ab (kz.pre (n,low,high,()))):ael n low high (fun r=>r=kz.res (n,low,high,())):=by
 simp only[kz,okL,T.oks,T.ok,ap,ab,a0e,a0b,a0h]at hok hpre
 try dsimp only[T.den]at hok hpre
 unfold ael
 grind[cnd,b9,aj,kz,inR]
theorem vh:bn Tryz.prog 72 kz:=ctb ao ba 72 Tryz.f72 kz .n [] (by kernel_rfl) rfl (fun x K=>ael x.1 x.2.1 x.2.2.1 K) (fun _ _=>by kernel_rfl) (fun x h1 h2=>ax5 x.1 x.2.1 x.2.2.1 h1 h2)
def bp(s:ac):Int->List Int->Int×Bool
 |n,[]=>(n,true)
 |n,e::r=>if inR e 0 ((s.2.1.length:Int)-1)=true/\s.2.1.getD e.toNat 0=n then bp s (s.2.2.1.getD e.toNat 0) r else (0,false)
def g9:Ct:=⟨[(.pt SchemaT),(.int .i64),(.sl (.int .i64))],[false,false,false],fun x=>[x.1.2.1.length<=x.1.2.2.1.length],[(false,(.fz (.int .i64))),(false,(.fz .bool))],fun x=>((bp x.1 x.2.1 x.2.2.1).1,(bp x.1 x.2.1 x.2.2.1).2,()),false,none⟩
def ak4:Ann:=(.s .n (.s (.s .n (.l [(1,(.d (.int .i64))),(12,(.d (.int .i64)))] [] [0,10,11] .n)) .n))
def xp(s:ac)(node:Int)(edges:List Int)(K:Int×Bool×Unit->Prop):Prop:=(bc (S:=bu1) (fun s1=>(fun next=>((inK .i64 s1.1.1)->((inK .i64 s1.1.2.1)->(cnd (decide (s1.1.2.1<(edges.length:Int))) ((0<=s1.1.2.1)/\((s1.1.2.1<(edges.length:Int))/\((inK .i64 ((s.2.1.length:Int)-1))/\((((!(inR (edges.getD s1.1.2.1.toNat 0) 0 ((s.2.1.length:Int)-1)))=false)->(((edges.getD s1.1.2.1.toNat 0)<(s.2.1.length:Int))/\(0<=(edges.getD s1.1.2.1.toNat 0))))/\(cnd ((!(inR (edges.getD s1.1.2.1.toNat 0) 0 ((s.2.1.length:Int)-1)))||((s.2.1.getD (Int.toNat (edges.getD s1.1.2.1.toNat 0)) 0) != s1.1.1)) (K (0,(false,()))) ((0<=(edges.getD s1.1.2.1.toNat 0))/\(((edges.getD s1.1.2.1.toNat 0)<(s.2.2.1.length:Int))/\((inK .i64 (s1.1.2.1+1))/\(next (((s.2.2.1.getD (Int.toNat (edges.getD s1.1.2.1.toNat 0)) 0),((s1.1.2.1+1),())),())))))))))) (K (s1.1.1,(true,())))))))) ((node,(0,())),()))
theorem aly(s:ac)(node:Int)(edges:List Int)(hok:ab (okL g9.args (s,node,edges,())))(hpre:ab (g9.pre (s,node,edges,()))):xp s node edges (fun r=>r=g9.res (s,node,edges,())):=by
 simp only[g9,okL,T.oks,T.ok,ap,ab,a0e,a0b,a0h]at hok hpre
 try dsimp only[T.den]at hok hpre
 unfold xp;refine bz (fun (s1:bu1)=>0<=s1.1.2.1/\s1.1.2.1<=edges.length/\bp s node edges=bp s s1.1.1 (edges.drop s1.1.2.1.toNat)) (fun (s1:bu1)=>(edges.length-s1.1.2.1).toNat) ?_ (by simp);rintro⟨⟨nd,i,_⟩,_⟩ next ⟨h0,h1,h2⟩ hn ha hin
 simp only at h0 h1 h2 hn⊢;refine al (fun hc=>?_) (fun hc=>?_)
 ·rw[mn edges 0 h0 hc]at h2;simp only[bp]at h2;generalize edges.getD i.toNat 0=e at *
  grind[cnd,b9,aj,g9,inR]
 ·rw[pc edges (by omega)]at h2;simp[bp,h2,g9]
theorem alt:bn Tryz.prog 91 g9:=ctb (af vh ao) ba 91 Tryz.f91 g9 ak4 [] (by kernel_rfl) rfl (fun x K=>xp x.1 x.2.1 x.2.2.1 K) (fun _ _=>by kernel_rfl) (fun x h1 h2=>aly x.1 x.2.1 x.2.2.1 h1 h2)
def bm(s:ac)(p:ae):Int×Bool:=if inR p.1 0 (s.1-1)=true/\p.2.length<=6 then bp s p.1 p.2 else (0,false)
def g6:Ct:=⟨[(.pt SchemaT),aq],[false,true],fun x=>[x.1.2.1.length<=x.1.2.2.1.length,inK .i64 (x.1.1-1)],[(false,(.fz (.int .i64))),(false,(.fz .bool))],fun x=>((bm x.1 x.2.1).1,(bm x.1 x.2.1).2,()),false,none⟩
def bmb:FuncId->Option Ct:=lkp [(91,g9),(72,kz)]
def aa3(s:ac)(p:ae)(K:Int×Bool×Unit->Prop):Prop:=((inK .i64 (s.1-1))/\(cnd ((!(inR p.1 0 (s.1-1)))||(decide (6<(p.2.length:Int)))) (K (0,(false,()))) ((s.2.1.length<=s.2.2.1.length)/\(K ((bp s p.1 p.2).1,((bp s p.1 p.2).2,()))))))
theorem ars(s:ac)(p:ae)(hok:ab (okL g6.args (s,p,())))(hpre:ab (g6.pre (s,p,()))):aa3 s p (fun r=>r=g6.res (s,p,())):=by
 simp only[g6,okL,T.oks,T.ok,ap,ab,a0e,a0b,a0h]at hok hpre
 try dsimp only[T.den]at hok hpre
 unfold aa3;simp only[g6,bm]
 grind[cnd,b9,aj]
theorem ot:bn Tryz.prog 74 g6:=ctb (af alt (af vh ao)) ba 74 Tryz.f74 g6 .n [(1,15)] (by kernel_rfl) rfl (fun x K=>aa3 x.1 x.2.1 K) (fun _ _=>by kernel_rfl) (fun x h1 h2=>ars x.1 x.2.1 h1 h2)
def kx:Ct:=⟨[(.sl (.int .i64)),(.int .i64)],[false,false],fun x=>[inK .i64 (x.2.1-1)],[(false,(.fz .bool))],fun x=>(bj x.1 x.2.1,()),false,none⟩
def aw2:Ann:=(.s .n (.s (.s .n (.l [(9,(.d (.int .i64)))] [] [1,7,8] .n)) .n))
def agj(list:List Int)(n:Int)(K:Bool×Unit->Prop):Prop:=(bc (S:=bux) (fun s=>(fun next=>((inK .i64 s.1.1)->(cnd (decide (s.1.1<(list.length:Int))) ((0<=s.1.1)/\((s.1.1<(list.length:Int))/\((inK .i64 (n-1))/\(cnd (!(inR (list.getD s.1.1.toNat 0) 0 (n-1))) (K (false,())) ((inK .i64 (s.1.1+1))/\(next (((s.1.1+1),()),()))))))) (K (true,())))))) ((0,()),()))
theorem bac(list:List Int)(n:Int)(hok:ab (okL kx.args (list,n,())))(hpre:ab (kx.pre (list,n,()))):agj list n (fun r=>r=kx.res (list,n,())):=by
 simp only[kx,okL,T.oks,T.ok,ap,ab,a0e,a0b,a0h]at hok hpre
 try dsimp only[T.den]at hok hpre
 unfold agj;refine bz (fun (s:bux)=>0<=s.1.1/\s.1.1<=list.length/\bj list n=bj (list.drop s.1.1.toNat) n) (fun (s:bux)=>(list.length-s.1.1).toNat) ?_ (by simp);rintro⟨⟨i,_⟩,_⟩ next ⟨h0,h1,h2⟩ hn hin
 simp only at h0 h1 h2 hn⊢;refine al (fun hc=>?_) (fun hc=>?_)
 ·rw[mn list 0 h0 hc]at h2;simp only[bj,a3w]at h2
  grind[cnd,b9,aj,kx,bj]
 ·rw[pc list (by omega)]at h2
  grind[cnd,b9,aj,kx,bj]
theorem aal:bn Tryz.prog 73 kx:=ctb (af vh ao) ba 73 Tryz.f73 kx aw2 [] (by kernel_rfl) rfl (fun x K=>agj x.1 x.2.1 K) (fun _ _=>by kernel_rfl) (fun x h1 h2=>bac x.1 x.2.1 h1 h2)
def bhn(s:ac)(p q:ae):Bool:=(bm s p).2&&(bm s q).2&&decide (p.1=q.1)&&decide ((bm s p).1=(bm s q).1)
def w6(s:ac):List ae->List ae->Bool
 |p::l,q::r=>bhn s p q&&w6 s l r
 |_,_=>true
def bi(s:ac):Bool:=inR s.1 0 8&&decide (s.2.1.length<=8)&&decide (s.2.2.1.length=s.2.1.length)&&bj s.2.1 s.1&&bj s.2.2.1 s.1&&decide (s.2.2.2.1.length<=8)&&decide (s.2.2.2.2.length=s.2.2.2.1.length)&&w6 s s.2.2.2.1 s.2.2.2.2
def eh:Ct:=⟨[(.pt SchemaT)],[false],fun x=>[],[(false,(.fz .bool))],fun x=>(bi x.1,()),false,none⟩
def ajd:Ann:=(.s .n (.s .n (.s .n (.s (.s .n (.l [(85,(.d (.int .i64)))] [] [0,83,84] .n)) .n))))
def bee:FuncId->Option Ct:=lkp [(74,g6),(72,kz),(73,kx)]
def vr(s:ac)(K:Bool×Unit->Prop):Prop:=((((((!(inR s.1 0 8))||(decide (8<(s.2.1.length:Int))))||((s.2.2.1.length:Int) != (s.2.1.length:Int)))=false)->(inK .i64 (s.1-1)))/\(((((((!(inR s.1 0 8))||(decide (8<(s.2.1.length:Int))))||((s.2.2.1.length:Int) != (s.2.1.length:Int)))||(!(bj s.2.1 s.1)))=false)->(inK .i64 (s.1-1)))/\(cnd (((((!(inR s.1 0 8))||(decide (8<(s.2.1.length:Int))))||((s.2.2.1.length:Int) != (s.2.1.length:Int)))||(!(bj s.2.1 s.1)))||(!(bj s.2.2.1 s.1))) (K (false,())) (cnd ((decide (8<(s.2.2.2.1.length:Int)))||((s.2.2.2.2.length:Int) != (s.2.2.2.1.length:Int))) (K (false,())) (bc (S:=bux) (fun s1=>(fun next=>((inK .i64 s1.1.1)->(cnd (decide (s1.1.1<(s.2.2.2.1.length:Int))) ((0<=s1.1.1)/\((s1.1.1<(s.2.2.2.1.length:Int))/\((0<=s1.1.1)/\((s1.1.1<(s.2.2.2.2.length:Int))/\((s.2.1.length<=s.2.2.1.length)/\((inK .i64 (s.1-1))/\((s.2.1.length<=s.2.2.1.length)/\((inK .i64 (s.1-1))/\(cnd ((((!(bm s (s.2.2.2.1.getD s1.1.1.toNat (0,[]))).2)||(!(bm s (s.2.2.2.2.getD s1.1.1.toNat (0,[]))).2))||((s.2.2.2.1.getD s1.1.1.toNat (0,[])).1 != (s.2.2.2.2.getD s1.1.1.toNat (0,[])).1))||((bm s (s.2.2.2.1.getD s1.1.1.toNat (0,[]))).1 != (bm s (s.2.2.2.2.getD s1.1.1.toNat (0,[]))).1)) (K (false,())) ((inK .i64 (s1.1.1+1))/\(next (((s1.1.1+1),()),())))))))))))) (K (true,())))))) ((0,()),()))))))
theorem akt(s:ac)(hok:ab (okL eh.args (s,())))(hpre:ab (eh.pre (s,()))):vr s (fun r=>r=eh.res (s,())):=by
 simp only[eh,okL,T.oks,T.ok,ap,ab,a0e,a0b,a0h]at hok hpre
 try dsimp only[T.den]at hok hpre
 unfold vr;refine⟨by grind[cnd,b9,aj,inR],by grind[cnd,b9,aj,inR],aw (fun hc=>?_) (fun hc=>aw (fun hd=>?_) (fun hd=>?_))⟩
 ·grind[cnd,b9,aj,eh,bi]
 ·grind[cnd,b9,aj,eh,bi]
 have he:bi s=w6 s s.2.2.2.1 s.2.2.2.2:=by grind[cnd,b9,aj,bi]
 simp only[eh,he];simp only[inR,a12,a1v,a0a,a06,a2q,a1a]at hc hd;refine bz (fun (s1:bux)=>0<=s1.1.1/\s1.1.1<=s.2.2.2.1.length/\w6 s s.2.2.2.1 s.2.2.2.2=w6 s (s.2.2.2.1.drop s1.1.1.toNat) (s.2.2.2.2.drop s1.1.1.toNat)) (fun (s1:bux)=>(s.2.2.2.1.length-s1.1.1).toNat) ?_ (by simp);rintro⟨⟨i,_⟩,_⟩ next ⟨h0,h1,h2⟩ hn hin
 simp only at h0 h1 h2 hn⊢;refine al (fun hx=>?_) (fun hx=>?_)
 ·rw[mn s.2.2.2.1 (0,[]) h0 hx,mn s.2.2.2.2 (0,[]) h0 (by omega)]at h2;simp only[w6,bhn]at h2;generalize s.2.2.2.1.getD i.toNat (0,[])=p at *;generalize s.2.2.2.2.getD i.toNat (0,[])=q at *;refine⟨by omega,by omega,by omega,by omega,by omega,by rw[aj];(try dsimp only);omega,by omega,by rw[aj];(try dsimp only);omega,aw (fun hy=>?_) (fun hy=>?_)⟩
  ·grind[cnd,b9,aj]
  ·grind[cnd,b9,aj]
 ·rw[pc s.2.2.2.1 (by omega)]at h2;simp[w6,h2]
theorem ajg:bn Tryz.prog 45 eh:=ctb (af ot (af vh (af aal ao))) ba 45 Tryz.f45 eh ajd [(1,51),(3,19)] (by kernel_rfl) rfl (fun x K=>vr x.1 K) (fun _ _=>by kernel_rfl) (fun x h1 h2=>akt x.1 h1 h2)
def eu:Ct:=⟨[(.pt az)],[false],fun x=>[],[(false,(.fz (.int .i64)))],fun x=>((x.1.2.1.length:Int),()),false,none⟩
def vx(c:a8)(K:Int×Unit->Prop):Prop:=(K ((c.2.1.length:Int),()))
theorem akj(c:a8)(hok:ab (okL eu.args (c,())))(hpre:ab (eu.pre (c,()))):vx c (fun r=>r=eu.res (c,())):=by
 simp only[eu,okL,T.oks,T.ok,ap,ab,a0e,a0b,a0h]at hok hpre
 try dsimp only[T.den]at hok hpre
 unfold vx;rfl
theorem qe:bn Tryz.prog 104 eu:=ctb ao ba 104 Tryz.f104 eu .n [] (by kernel_rfl) rfl (fun x K=>vx x.1 K) (fun _ _=>by kernel_rfl) (fun x h1 h2=>akj x.1 h1 h2)
def fp(c:a8)(f g:Int):Int:=(c.2.2.2.2.getD f.toNat []).getD g.toNat 0
def kr:Ct:=⟨[(.pt az),(.int .i64),(.int .i64)],[false,false,false],fun x=>[0<=x.2.1,x.2.1<x.1.2.2.2.2.length,0<=x.2.2.1,x.2.2.1<(x.1.2.2.2.2.getD x.2.1.toNat []).length],[(false,(.fz (.int .i64)))],fun x=>(fp x.1 x.2.1 x.2.2.1,()),false,none⟩
def xr(c:a8)(f:Int)(g:Int)(K:Int×Unit->Prop):Prop:=((0<=f)/\((f<(c.2.2.2.2.length:Int))/\((0<=g)/\((g<(List.length (c.2.2.2.2.getD f.toNat []):Int))/\(K ((List.getD (c.2.2.2.2.getD f.toNat []) g.toNat 0),()))))))
theorem am3(c:a8)(f:Int)(g:Int)(hok:ab (okL kr.args (c,f,g,())))(hpre:ab (kr.pre (c,f,g,()))):xr c f g (fun r=>r=kr.res (c,f,g,())):=by
 simp only[kr,okL,T.oks,T.ok,ap,ab,a0e,a0b,a0h]at hok hpre
 try dsimp only[T.den]at hok hpre
 unfold xr;exact⟨hpre.1,hpre.2.1,hpre.2.2.1,hpre.2.2.2,rfl⟩
theorem ab8:bn Tryz.prog 79 kr:=ctb ao ba 79 Tryz.f79 kr .n [] (by kernel_rfl) rfl (fun x K=>xr x.1 x.2.1 x.2.2.1 K) (fun _ _=>by kernel_rfl) (fun x h1 h2=>am3 x.1 x.2.1 x.2.2.1 h1 h2)
def kq:Ct:=⟨[(.pt az),(.int .i64)],[false,false],fun x=>[0<=x.2.1,x.2.1<x.1.2.1.length,x.2.1<x.1.2.2.1.length],[(true,(.fz bt5))],fun x=>(((x.1.2.1.getD x.2.1.toNat 0,x.1.2.2.1.getD x.2.1.toNat 0):Int×Int),()),false,none⟩
def xc(c:a8)(f:Int)(K:btk×Unit->Prop):Prop:=((0<=f)/\((f<(c.2.1.length:Int))/\((0<=f)/\((f<(c.2.2.1.length:Int))/\(K (((c.2.1.getD f.toNat 0),(c.2.2.1.getD f.toNat 0)),()))))))
theorem ana(c:a8)(f:Int)(hok:ab (okL kq.args (c,f,())))(hpre:ab (kq.pre (c,f,()))):xc c f (fun r=>r=kq.res (c,f,())):=by
 simp only[kq,okL,T.oks,T.ok,ap,ab,a0e,a0b,a0h]at hok hpre
 try dsimp only[T.den]at hok hpre
 unfold xc;exact⟨hpre.1,hpre.2.1,hpre.1,hpre.2.2,rfl⟩
theorem ala:bn Tryz.prog 53 kq:=ctb ao ba 53 Tryz.f53 kq .n [(1,15)] (by kernel_rfl) rfl (fun x K=>xc x.1 x.2.1 K) (fun _ _=>by kernel_rfl) (fun x h1 h2=>ana x.1 x.2.1 h1 h2)
def aan(c:a8)(f g v:Int):Bool:=
 if c.2.2.1.getD f.toNat 0=c.2.1.getD g.toNat 0 then decide (0<=v/\v<c.2.1.length/\c.2.1.getD v.toNat 0=c.2.1.getD f.toNat 0/\c.2.2.1.getD v.toNat 0=c.2.2.1.getD g.toNat 0)
 else decide (v=-1)
def v8(c:a8)(f g:Int):Bool:=aan c f g (fp c f g)
structure ShapeP (c:a8):Prop where
 ob:0<=c.1/\c.1<=8
 m:c.2.1.length<=40
 lt:c.2.2.1.length=c.2.1.length
 fr:bj c.2.1 c.1=true
 to:bj c.2.2.1 c.1=true
 li:(c.2.2.2.1.length:Int)=c.1
 ids:bj c.2.2.2.1 c.2.1.length=true
 lc:c.2.2.2.2.length=c.2.1.length
 idt:∀x:Int,0<=x->x<c.1->c.2.1.getD (c.2.2.2.1.getD x.toNat 0).toNat 0=x/\c.2.2.1.getD (c.2.2.2.1.getD x.toNat 0).toNat 0=x
 row:∀f:Int,0<=f->f<c.2.1.length->(c.2.2.2.2.getD f.toNat []).length=c.2.1.length
 cell:∀f g:Int,0<=f->f<c.2.1.length->0<=g->g<c.2.1.length->v8 c f g=true
def abg(c:a8):Bool:=inR c.1 0 8&&decide (c.2.1.length<=40)&&decide (c.2.2.1.length=c.2.1.length)&&bj c.2.1 c.1&&bj c.2.2.1 c.1&&decide ((c.2.2.2.1.length:Int)=c.1)&&bj c.2.2.2.1 c.2.1.length &&
 decide (c.2.2.2.2.length=c.2.1.length)&&rm c.1.toNat (fun x=>decide (c.2.1.getD (c.2.2.2.1.getD x.toNat 0).toNat 0=x/\c.2.2.1.getD (c.2.2.2.1.getD x.toNat 0).toNat 0=x)) &&
 rm c.2.1.length (fun f=>decide ((c.2.2.2.2.getD f.toNat []).length=c.2.1.length))&&rm c.2.1.length (fun f=>rm c.2.1.length fun g=>v8 c f g)
theorem zy{c:a8}:abg c=true<->ShapeP c:=by
 simp only[abg,a0a,a06,inR,aex];constructor
 ·rintro⟨⟨⟨⟨⟨⟨⟨⟨⟨⟨h0,h1⟩,h2⟩,h3⟩,h4⟩,h5⟩,h6⟩,h7⟩,h8⟩,h9⟩,h10⟩;exact⟨h0,h1,h2,h3,h4,h5,h6,h7,fun x a b=>h8 x a (by omega),h9,fun f g a b d e=>h10 f a b g d e⟩
 ·intro h;exact⟨⟨⟨⟨⟨⟨⟨⟨⟨⟨h.ob,h.m⟩,h.lt⟩,h.fr⟩,h.to⟩,h.li⟩,h.ids⟩,h.lc⟩,fun x a b=>h.idt x a (by have:=h.ob;omega)⟩,h.row⟩,fun f a b g d e=>h.cell f g a b d e⟩
theorem aqc{c:a8}(h:¬ShapeP c):abg c=false:=by
 cases hs:abg c with
 |false=>rfl
 |true=>exact absurd (zy.1 hs) h
theorem bgw{c:a8}(h:ShapeP c):abg c=true:=zy.2 h
def db:Ct:=⟨[(.pt az)],[false],fun x=>[],[(false,(.fz .bool))],fun x=>(abg x.1,()),false,none⟩
def aig:Ann:=(.s .n (.s .n (.s .n (.s .n (.s (.s .n (.l [(88,(.d (.int .i64)))] [] [0,3,86,87] .n)) (.s (.s .n (.l [(106,(.d (.int .i64)))] [] [0,3,104,105] (.s .n (.s .n (.s (.s .n (.s .n (.s .n (.l [(117,(.d (.int .i64)))] [] [0,3,6,104,105,106,115,116] (.s .n (.s .n (.s (.j [] [] [0,3,6,104,105,106,115,116,117] .n) .n))))))) .n))))) .n))))))
def bdu:FuncId->Option Ct:=lkp [(104,eu),(53,kq),(72,kz),(73,kx)]
def ur(c:a8)(K:Bool×Unit->Prop):Prop:=((((((!(inR c.1 0 8))||(decide (40<(c.2.1.length:Int))))||((c.2.2.1.length:Int) != (c.2.1.length:Int)))=false)->(inK .i64 (c.1-1)))/\(((((((!(inR c.1 0 8))||(decide (40<(c.2.1.length:Int))))||((c.2.2.1.length:Int) != (c.2.1.length:Int)))||(!(bj c.2.1 c.1)))=false)->(inK .i64 (c.1-1)))/\(cnd (((((!(inR c.1 0 8))||(decide (40<(c.2.1.length:Int))))||((c.2.2.1.length:Int) != (c.2.1.length:Int)))||(!(bj c.2.1 c.1)))||(!(bj c.2.2.1 c.1))) (K (false,())) (((((c.2.2.2.1.length:Int) != c.1)=false)->(inK .i64 ((c.2.1.length:Int)-1)))/\(cnd ((((c.2.2.2.1.length:Int) != c.1)||(!(bj c.2.2.2.1 (c.2.1.length:Int))))||((c.2.2.2.2.length:Int) != (c.2.1.length:Int))) (K (false,())) (bc (S:=bux) (fun s=>(fun next=>((inK .i64 s.1.1)->(cnd (decide (s.1.1<(c.2.2.2.1.length:Int))) ((0<=s.1.1)/\((s.1.1<(c.2.2.2.1.length:Int))/\((0<=(c.2.2.2.1.getD s.1.1.toNat 0))/\(((c.2.2.2.1.getD s.1.1.toNat 0)<(c.2.1.length:Int))/\(((c.2.2.2.1.getD s.1.1.toNat 0)<(c.2.2.1.length:Int))/\(cnd (!(((c.2.1.getD (Int.toNat (c.2.2.2.1.getD s.1.1.toNat 0)) 0)==s.1.1)&&((c.2.2.1.getD (Int.toNat (c.2.2.2.1.getD s.1.1.toNat 0)) 0)==s.1.1))) (K (false,())) ((inK .i64 (s.1.1+1))/\(next (((s.1.1+1),()),()))))))))) (bc (S:=bux) (fun s1=>(fun next1=>((inK .i64 s1.1.1)->(cnd (decide (s1.1.1<(c.2.2.2.2.length:Int))) ((0<=s1.1.1)/\((s1.1.1<(c.2.2.2.2.length:Int))/\(cnd ((List.length (c.2.2.2.2.getD s1.1.1.toNat []):Int) != (c.2.1.length:Int)) (K (false,())) (bc (S:=bux) (fun s2=>(fun next2=>((inK .i64 s2.1.1)->(cnd (decide (s2.1.1<(List.length (c.2.2.2.2.getD s1.1.1.toNat []):Int))) (jd (S:=(Unit×Unit)) (fun s3=>((inK .i64 (s2.1.1+1))/\(next2 (((s2.1.1+1),()),())))) (fun k=>((0<=s2.1.1)/\((s2.1.1<(List.length (c.2.2.2.2.getD s1.1.1.toNat []):Int))/\((0<=s1.1.1)/\((s1.1.1<(c.2.2.1.length:Int))/\((0<=s2.1.1)/\((s2.1.1<(c.2.1.length:Int))/\(cnd ((c.2.2.1.getD s1.1.1.toNat 0) != (c.2.1.getD s2.1.1.toNat 0)) (cnd ((List.getD (c.2.2.2.2.getD s1.1.1.toNat []) s2.1.1.toNat 0) != (-1)) (K (false,())) (k ((),()))) ((inK .i64 ((c.2.1.length:Int)-1))/\((((!(inR (List.getD (c.2.2.2.2.getD s1.1.1.toNat []) s2.1.1.toNat 0) 0 ((c.2.1.length:Int)-1)))=false)->(((List.getD (c.2.2.2.2.getD s1.1.1.toNat []) s2.1.1.toNat 0)<(c.2.1.length:Int))/\(((List.getD (c.2.2.2.2.getD s1.1.1.toNat []) s2.1.1.toNat 0)<(c.2.2.1.length:Int))/\(0<=(List.getD (c.2.2.2.2.getD s1.1.1.toNat []) s2.1.1.toNat 0)))))/\((((!(inR (List.getD (c.2.2.2.2.getD s1.1.1.toNat []) s2.1.1.toNat 0) 0 ((c.2.1.length:Int)-1)))=false)->((s1.1.1<(c.2.1.length:Int))/\(0<=s1.1.1)))/\((((!(inR (List.getD (c.2.2.2.2.getD s1.1.1.toNat []) s2.1.1.toNat 0) 0 ((c.2.1.length:Int)-1)))=false)->((s2.1.1<(c.2.2.1.length:Int))/\(0<=s2.1.1)))/\(cnd ((!(inR (List.getD (c.2.2.2.2.getD s1.1.1.toNat []) s2.1.1.toNat 0) 0 ((c.2.1.length:Int)-1)))||(!(((c.2.1.getD (Int.toNat (List.getD (c.2.2.2.2.getD s1.1.1.toNat []) s2.1.1.toNat 0)) 0)==(c.2.1.getD s1.1.1.toNat 0))&&((c.2.2.1.getD (Int.toNat (List.getD (c.2.2.2.2.getD s1.1.1.toNat []) s2.1.1.toNat 0)) 0)==(c.2.2.1.getD s2.1.1.toNat 0))))) (K (false,())) (k ((),())))))))))))))))) ((inK .i64 (s1.1.1+1))/\(next1 (((s1.1.1+1),()),()))))))) ((0,()),()))))) (K (true,())))))) ((0,()),())))))) ((0,()),())))))))
theorem ajj(c:a8)(hok:ab (okL db.args (c,())))(hpre:ab (db.pre (c,()))):ur c (fun r=>r=db.res (c,())):=by
 simp only[db,okL,T.oks,T.ok,ap,ab,a0e,a0b,a0h]at hok hpre
 try dsimp only[T.den]at hok hpre
 unfold ur;refine⟨by grind[cnd,b9,aj,inR],by grind[cnd,b9,aj,inR],aw (fun hc=>?_) (fun hc=>⟨by rw[aj];have:=hok.2.1.1;grind[cnd,b9,aj],aw (fun hd=>?_) (fun hd=>?_)⟩)⟩
 ·simp only[db];rw[aqc];intro h;have h1:=h.ob;have h2:=h.m;have h3:=h.lt;have h4:=h.fr;have h5:=h.to;simp only[inR]at hc;grind[cnd,b9,aj]
 ·simp only[db];rw[aqc];intro h;have h1:=h.li;have h2:=h.ids;have h3:=h.lc;grind[cnd,b9,aj]
 simp only[inR,a12,a1v,a0a,a06,a2q,a1a]at hc hd;obtain⟨⟨⟨⟨hob,hm⟩,hlt⟩,hfr⟩,hto⟩:=hc;obtain⟨⟨hli,hids⟩,hlc⟩:=hd;have bad:¬ShapeP c->(false,())=db.res (c,()):=fun h=>by simp only[db];rw[aqc h]
 refine fx (n:=c.2.2.2.1.length) (fun x=>∀y:Int,0<=y->y<x->c.2.1.getD (c.2.2.2.1.getD y.toNat 0).toNat 0=y/\c.2.2.1.getD (c.2.2.2.1.getD y.toNat 0).toNat 0=y) (by omega) (by intro y h0 h1;omega) ?_ ?_
 ·intro x next h0 h1 hP hn hin
  have hb:=iv.1 hids x h0 h1
  try dsimp only
  refine al (fun _=>⟨h0,h1,hb.1,hb.2,by omega,aw (fun hx=>bad fun h=>?_) (fun hx=>?_)⟩) (fun h=>absurd h1 h)
  ·have:=h.idt x h0 (by omega);rw[this.1,this.2]at hx;simp at hx
  ·simp only[a1v,a0a,a0t]at hx;refine⟨by rw[aj];(try dsimp only);omega,hn fun y y0 y1=>?_⟩;by_cases e:y=x
   ·rw[e];exact hx
   ·exact hP y y0 (by omega)
 intro next hidt hin
 refine al (fun h=>absurd h (by dsimp only;omega)) (fun _=>?_);refine fx (n:=c.2.2.2.2.length) (fun f=>∀f':Int,0<=f'->f'<f->(c.2.2.2.2.getD f'.toNat []).length=c.2.1.length/\∀g:Int,0<=g->g<c.2.1.length->v8 c f' g=true) (by omega) (by intro y h0 h1;omega) ?_ ?_
 ·intro f next h0 h1 hP hn hin
  try dsimp only
  refine al (fun _=>⟨h0,h1,aw (fun hx=>bad fun h=>?_) (fun hx=>?_)⟩) (fun h=>absurd h1 h)
  ·have:=h.row f h0 (by omega);rw[this]at hx;simp at hx
  simp only[a1a]at hx;refine fx (n:=(c.2.2.2.2.getD f.toNat []).length) (fun g=>∀g':Int,0<=g'->g'<g->v8 c f g'=true) (by omega) (by intro y h0 h1;omega) ?_ ?_
  ·intro g next3 g0 g1 hP3 hn3 hin3
   try dsimp only
   refine al (fun _=>?_) (fun h=>absurd g1 h);refine g7 (fun _=>v8 c f g=true) (fun _ hcell=>⟨by rw[aj];(try dsimp only);omega,hn3 fun g' y0 y1=>?_⟩) (fun k hk=>?_)
   ·by_cases e:g'=g
    ·rw[e];exact hcell
    ·exact hP3 g' y0 (by omega)
   have hcell:∀b,v8 c f g=b->b=false->¬ShapeP c:=fun b h1 h2 h=>by have:=h.cell f g h0 (by omega) g0 (by omega);rw[h1,h2]at this;cases this
   have hk':=hk ((),());obtain⟨v,hv⟩:∃v,(c.2.2.2.2.getD f.toNat []).getD g.toNat 0=v:=⟨_,rfl⟩;have hR:v8 c f g=aan c f g v:=by unfold v8 fp;rw[hv]
   rw[hR]at hk';rw[hR]at hcell;rw[hv];clear hP3 hn3 hP hn hk hR hv hidt hok;refine⟨g0,g1,h0,by omega,g0,by omega,aw (fun ha=>aw (fun hb=>bad ?_) (fun hb=>hk' ?_)) (fun ha=>⟨by rw[aj];(try dsimp only);omega,fun hv=>?_,fun _=>⟨by omega,h0⟩,fun _=>⟨by omega,g0⟩,aw (fun hb=>bad ?_) (fun hb=>hk' ?_)⟩)⟩
   ·exact hcell _ rfl (by grind[cnd,b9,aj,aan])
   ·grind[cnd,b9,aj,aan]
   ·simp only[inR,a1v,a0a,a06]at hv;omega
   ·exact hcell _ rfl (by simp only[inR]at hb;grind[cnd,b9,aj,aan])
   ·simp only[inR]at hb;grind[cnd,b9,aj,aan]
  ·intro next3 hP3 hin3;refine al (fun h=>absurd h (by dsimp only;omega)) (fun _=>⟨by rw[aj];(try dsimp only);omega,hn fun f' y0 y1=>?_⟩);by_cases e:f'=f
   ·rw[e];exact⟨by omega,fun g g0 g1=>hP3 g g0 (by omega)⟩
   ·exact hP f' y0 (by omega)
 ·intro next2 hP2 hin2;refine al (fun h=>absurd h (by dsimp only;omega)) (fun _=>?_);simp only[db];rw[bgw ⟨hob,by omega,by omega,hfr,hto,by omega,hids,by omega,fun x a b=>hidt x a (by omega),fun f a b=>(hP2 f a (by omega)).1,fun f g a b d e=>(hP2 f a (by omega)).2 g d e⟩]
theorem aiq:bn Tryz.prog 125 db:=ctb (af qe (af ala (af vh (af aal ao)))) ba 125 Tryz.f125 db aig [(2,43),(20,15),(4,28),(23,26)] (by kernel_rfl) rfl (fun x K=>ur x.1 K) (fun _ _=>by kernel_rfl) (fun x h1 h2=>ajj x.1 h1 h2)
theorem ShapeP.frm{c:a8}(h:ShapeP c){f:Int}(h0:0<=f)(h1:f<c.2.1.length):0<=c.2.1.getD f.toNat 0/\c.2.1.getD f.toNat 0<c.1/\0<=c.2.2.1.getD f.toNat 0/\c.2.2.1.getD f.toNat 0<c.1:=by have a:=iv.1 h.fr f h0 h1;have b:=iv.1 h.to f h0 (by have:=h.lt;omega);exact⟨a.1,a.2,b.1,b.2⟩
theorem ShapeP.idn{c:a8}(h:ShapeP c){x:Int}(h0:0<=x)(h1:x<c.1):0<=c.2.2.2.1.getD x.toNat 0/\c.2.2.2.1.getD x.toNat 0<c.2.1.length/\c.2.1.getD (c.2.2.2.1.getD x.toNat 0).toNat 0=x/\c.2.2.1.getD (c.2.2.2.1.getD x.toNat 0).toNat 0=x:=by have a:=iv.1 h.ids x h0 (by have:=h.li;omega);have b:=h.idt x h0 h1;exact⟨a.1,a.2,b.1,b.2⟩
theorem ShapeP.yes{c:a8}(h:ShapeP c){f g:Int}(h0:0<=f)(h1:f<c.2.1.length)(g0:0<=g)(g1:g<c.2.1.length)(e:c.2.2.1.getD f.toNat 0=c.2.1.getD g.toNat 0) :
  0<=fp c f g/\fp c f g<c.2.1.length/\c.2.1.getD (fp c f g).toNat 0=c.2.1.getD f.toNat 0/\c.2.2.1.getD (fp c f g).toNat 0=c.2.2.1.getD g.toNat 0:=by
 have:=h.cell f g h0 h1 g0 g1;unfold v8 aan at this;rw[d0 e]at this;simpa using this
theorem ShapeP.no{c:a8}(h:ShapeP c){f g:Int}(h0:0<=f)(h1:f<c.2.1.length)(g0:0<=g)(g1:g<c.2.1.length)(e:c.2.2.1.getD f.toNat 0≠c.2.1.getD g.toNat 0):fp c f g=-1:=by have:=h.cell f g h0 h1 g0 g1;unfold v8 aan at this;rw[ds e]at this;simpa using this
theorem ShapeP.comp{c:a8}(h:ShapeP c){f g:Int}(h0:0<=f)(h1:f<c.2.1.length)(g0:0<=g)(g1:g<c.2.1.length):0<=fp c f g<->c.2.2.1.getD f.toNat 0=c.2.1.getD g.toNat 0:=by
 constructor
 ·intro h2;by_cases e:c.2.2.1.getD f.toNat 0=c.2.1.getD g.toNat 0
  ·exact e
  ·have:=h.no h0 h1 g0 g1 e;omega
 ·intro e;exact (h.yes h0 h1 g0 g1 e).1
def wc(c:a8)(f:Int):Option bvc:=if fp c (c.2.2.2.1.getD (c.2.1.getD f.toNat 0).toNat 0) f≠f\/fp c f (c.2.2.2.1.getD (c.2.2.1.getD f.toNat 0).toNat 0)≠f then some (1,f,0,0)else none
def zj(c:a8)(f g h:Int):Option bvc:=if c.2.2.1.getD g.toNat 0=c.2.1.getD h.toNat 0/\fp c (fp c f g) h≠fp c f (fp c g h)then some (2,f,g,h)else none
def wn(c:a8)(f g:Int):Option bvc:=if c.2.2.1.getD f.toNat 0=c.2.1.getD g.toNat 0 then d8 (zj c f g) c.2.1.length 0 else none
def aag(c:a8)(f:Int):Option bvc:=d8 (wn c f) c.2.1.length 0
def pg(c:a8):Int×Int×Int×Int:=orR (d8 (wc c) c.2.1.length 0) (orR (d8 (aag c) c.2.1.length 0) (0,0,0,0))
def gq:Ct:=⟨[(.pt az)],[false],fun x=>[ShapeP x.1],[(false,(.fz (.int .i64))),(false,(.fz (.int .i64))),(false,(.fz (.int .i64))),(false,(.fz (.int .i64)))],fun x=>((pg x.1).1,(pg x.1).2.1,(pg x.1).2.2.1,(pg x.1).2.2.2,()),false,none⟩
def akk:Ann:=(.s .n (.s .n (.s (.s .n (.l [(7,(.d (.int .i64)))] [] [0,6] .n)) (.s (.s .n (.l [(8,(.d (.int .i64)))] [] [0,6] (.s .n (.s (.s .n (.l [(9,(.d (.int .i64)))] [] [0,6,8] (.s .n (.s (.j [] [] [0,6,8,9] (.s .n (.s .n (.l [(10,(.d (.int .i64)))] [] [0,6,8,9] .n)))) .n)))) .n)))) .n))))
def bei:FuncId->Option Ct:=lkp [(104,eu),(79,kr)]
def wo(c:a8)(K:Int×Int×Int×Int×Unit->Prop):Prop:=(bc (S:=bux) (fun s=>(fun next=>((inK .i64 s.1.1)->(cnd (decide (s.1.1<(c.2.1.length:Int))) ((0<=s.1.1)/\((s.1.1<(c.2.1.length:Int))/\((0<=(c.2.1.getD s.1.1.toNat 0))/\(((c.2.1.getD s.1.1.toNat 0)<(c.2.2.2.1.length:Int))/\((0<=(c.2.2.2.1.getD (Int.toNat (c.2.1.getD s.1.1.toNat 0)) 0))/\(((c.2.2.2.1.getD (Int.toNat (c.2.1.getD s.1.1.toNat 0)) 0)<(c.2.2.2.2.length:Int))/\((0<=s.1.1)/\((s.1.1<(((List.length (c.2.2.2.2.getD (Int.toNat (c.2.2.2.1.getD (Int.toNat (c.2.1.getD s.1.1.toNat 0)) 0)) [])):Nat):Int))/\(((((fp c (c.2.2.2.1.getD (Int.toNat (c.2.1.getD s.1.1.toNat 0)) 0) s.1.1) != s.1.1)=false)->((s.1.1<(c.2.2.1.length:Int))/\(0<=s.1.1)))/\(((((fp c (c.2.2.2.1.getD (Int.toNat (c.2.1.getD s.1.1.toNat 0)) 0) s.1.1) != s.1.1)=false)->(((c.2.2.1.getD s.1.1.toNat 0)<(c.2.2.2.1.length:Int))/\(0<=(c.2.2.1.getD s.1.1.toNat 0))))/\(((((fp c (c.2.2.2.1.getD (Int.toNat (c.2.1.getD s.1.1.toNat 0)) 0) s.1.1) != s.1.1)=false)->((s.1.1<(c.2.2.2.2.length:Int))/\((0<=(c.2.2.2.1.getD (Int.toNat (c.2.2.1.getD s.1.1.toNat 0)) 0))/\(((c.2.2.2.1.getD (Int.toNat (c.2.2.1.getD s.1.1.toNat 0)) 0)<(List.length (c.2.2.2.2.getD s.1.1.toNat []):Int))/\(0<=s.1.1)))))/\(cnd (((fp c (c.2.2.2.1.getD (Int.toNat (c.2.1.getD s.1.1.toNat 0)) 0) s.1.1) != s.1.1)||((fp c s.1.1 (c.2.2.2.1.getD (Int.toNat (c.2.2.1.getD s.1.1.toNat 0)) 0)) != s.1.1)) (K (1,(s.1.1,(0,(0,()))))) ((inK .i64 (s.1.1+1))/\(next (((s.1.1+1),()),()))))))))))))))) (bc (S:=bux) (fun s1=>(fun next1=>((inK .i64 s1.1.1)->(cnd (decide (s1.1.1<(c.2.1.length:Int))) (bc (S:=bux) (fun s2=>(fun next2=>((inK .i64 s2.1.1)->(cnd (decide (s2.1.1<(c.2.1.length:Int))) (jd (S:=(Unit×Unit)) (fun s3=>((inK .i64 (s2.1.1+1))/\(next2 (((s2.1.1+1),()),())))) (fun k=>((0<=s1.1.1)/\((s1.1.1<(c.2.2.2.2.length:Int))/\((0<=s2.1.1)/\((s2.1.1<(List.length (c.2.2.2.2.getD s1.1.1.toNat []):Int))/\(cnd (decide ((fp c s1.1.1 s2.1.1)<0)) (k ((),())) (bc (S:=bux) (fun s3=>(fun next3=>((inK .i64 s3.1.1)->(cnd (decide (s3.1.1<(c.2.1.length:Int))) ((0<=s2.1.1)/\((s2.1.1<(c.2.2.2.2.length:Int))/\((0<=s3.1.1)/\((s3.1.1<(List.length (c.2.2.2.2.getD s2.1.1.toNat []):Int))/\((((decide (0<=(fp c s2.1.1 s3.1.1)))=true)->((s1.1.1<(c.2.2.2.2.length:Int))/\((0<=s2.1.1)/\((s2.1.1<(List.length (c.2.2.2.2.getD s1.1.1.toNat []):Int))/\(0<=s1.1.1)))))/\((((decide (0<=(fp c s2.1.1 s3.1.1)))=true)->(((fp c s1.1.1 s2.1.1)<(c.2.2.2.2.length:Int))/\((0<=s3.1.1)/\((s3.1.1<(((List.length (c.2.2.2.2.getD (Int.toNat (fp c s1.1.1 s2.1.1)) [])):Nat):Int))/\(0<=(fp c s1.1.1 s2.1.1))))))/\((((decide (0<=(fp c s2.1.1 s3.1.1)))=true)->((s2.1.1<(c.2.2.2.2.length:Int))/\((0<=s3.1.1)/\((s3.1.1<(List.length (c.2.2.2.2.getD s2.1.1.toNat []):Int))/\(0<=s2.1.1)))))/\((((decide (0<=(fp c s2.1.1 s3.1.1)))=true)->((s1.1.1<(c.2.2.2.2.length:Int))/\((0<=(fp c s2.1.1 s3.1.1))/\(((fp c s2.1.1 s3.1.1)<(List.length (c.2.2.2.2.getD s1.1.1.toNat []):Int))/\(0<=s1.1.1)))))/\(cnd ((decide (0<=(fp c s2.1.1 s3.1.1)))&&((fp c (fp c s1.1.1 s2.1.1) s3.1.1) != (fp c s1.1.1 (fp c s2.1.1 s3.1.1)))) (K (2,(s1.1.1,(s2.1.1,(s3.1.1,()))))) ((inK .i64 (s3.1.1+1))/\(next3 (((s3.1.1+1),()),())))))))))))) (k ((),())))))) ((0,()),()))))))))) ((inK .i64 (s1.1.1+1))/\(next1 (((s1.1.1+1),()),()))))))) ((0,()),())) (K (0,(0,(0,(0,()))))))))) ((0,()),())))))) ((0,()),()))
theorem ak2(c:a8)(hok:ab (okL gq.args (c,())))(hpre:ab (gq.pre (c,()))):wo c (fun r=>r=gq.res (c,())):=by
 simp only[gq,okL,T.oks,T.ok,ap,ab,a0e,a0b,a0h]at hok hpre
 try dsimp only[T.den]at hok hpre
 unfold wo;have S:ShapeP c:=hpre;have hlt:=S.lt;have hli:=S.li;have hlc:=S.lc;have hmm:=S.m;have resq:∀a b d e,pg c=(a,b,d,e)->(a,b,d,e,())=gq.res (c,()):=fun a b d e h=>by simp only[gq,h]
 refine fx (n:=c.2.1.length) (fun f=>d8 (wc c) c.2.1.length 0=d8 (wc c) ((c.2.1.length:Int)-f).toNat f) (by omega) x9 ?_ ?_
 ·intro f next h0 h1 hP hn hin
  try dsimp only
  obtain⟨a1,a2,a3,a4⟩:=S.frm h0 h1;obtain⟨b1,b2,_,_⟩:=S.idn a1 a2;obtain⟨d1,d2,_,_⟩:=S.idn a3 a4;have r1:=S.row _ b1 b2;have r2:=S.row f h0 h1;refine al (fun _=>⟨h0,h1,by omega,by omega,by omega,by omega,h0,by omega,fun _=>by omega,fun _=>by omega,fun _=>by omega,aw (fun hx=>resq _ _ _ _ ?_) (fun hx=>⟨by rw[aj];(try dsimp only);omega,hn ?_⟩)⟩) (fun h=>absurd h1 h)
  ·have:wc c f=some (1,f,0,0):=by unfold wc;rw[d0];simpa using hx
   unfold pg;rw[hP,qi h1 this];rfl
  ·have:wc c f=none:=by unfold wc;rw[ds];simpa using hx
   rw[hP,qh h1 this]
 intro next hI hin
 rw[qf]at hI;refine al (fun h=>absurd h (by dsimp only;omega)) (fun _=>?_);have hF:pg c=orR (d8 (aag c) c.2.1.length 0) (0,0,0,0):=by unfold pg;rw[hI];rfl
 refine fx (n:=c.2.1.length) (fun f=>d8 (aag c) c.2.1.length 0=d8 (aag c) ((c.2.1.length:Int)-f).toNat f) (by omega) x9 ?_ ?_
 ·intro f next h0 h1 hP hn hin
  try dsimp only
  refine al (fun _=>?_) (fun h=>absurd h1 h);have r1:=S.row f h0 h1;refine fx (n:=c.2.1.length) (fun g=>aag c f=d8 (wn c f) ((c.2.1.length:Int)-g).toNat g) (by omega) x9 ?_ ?_
  ·intro g next3 g0 g1 hP3 hn3 hin3
   try dsimp only
   refine al (fun _=>?_) (fun h=>absurd g1 h);have r2:=S.row g g0 g1;refine g7 (fun _=>wn c f g=none) (fun _ hG=>⟨by rw[aj];(try dsimp only);omega,hn3 (by rw[hP3,qh g1 hG])⟩) (fun k hk=>?_);have hk':=hk ((),());refine⟨by omega,by omega,by omega,by omega,al (fun hx=>hk' ?_) (fun hx=>?_)⟩
   ·unfold wn;rw[ds];intro e;have:=(S.comp h0 h1 g0 g1).2 e;omega
   have hfg:=(S.comp h0 h1 g0 g1).1 (by omega);obtain⟨y1,y2,_,_⟩:=S.yes h0 h1 g0 g1 hfg;refine fx (n:=c.2.1.length) (fun h=>wn c f g=d8 (zj c f g) ((c.2.1.length:Int)-h).toNat h) (by omega) (by unfold wn;rw[d0 hfg];exact x9) ?_ ?_
   ·intro h next4 i0 i1 hP4 hn4 hin4
    try dsimp only
    refine al (fun _=>?_) (fun h=>absurd i1 h);have r3:=S.row _ y1 y2;have cgh:=S.comp g0 g1 i0 i1;have ygh:=@ShapeP.yes c S g h g0 g1 i0 i1;refine⟨by omega,by omega,by omega,by omega,fun _=>by omega,fun _=>by omega,fun _=>by omega,fun he=>?_,aw (fun hx=>resq _ _ _ _ ?_) (fun hx=>⟨by rw[aj];(try dsimp only);omega,hn4 ?_⟩)⟩
    ·have:=ygh (cgh.1 (by simpa using he));omega
    ·have:zj c f g h=some (2,f,g,h):=by unfold zj;rw[d0];rw[←cgh];simpa using hx
     have e1:wn c f g=some (2,f,g,h):=by rw[hP4,qi i1 this]
     have e2:aag c f=some (2,f,g,h):=by rw[hP3,qi g1 e1]
     rw[hF,hP,qi h1 e2];rfl
    ·have:zj c f g h=none:=by unfold zj;rw[ds];rw[←cgh];simpa using hx
     rw[hP4,qh i1 this]
   ·intro next4 hP4 hin4;rw[qf]at hP4;exact al (fun h=>absurd h (by dsimp only;omega)) (fun _=>hk' hP4)
  ·intro next3 hP3 hin3;rw[qf]at hP3;exact al (fun h=>absurd h (by dsimp only;omega)) (fun _=>⟨by rw[aj];(try dsimp only);omega,hn (by rw[hP,qh h1 hP3])⟩)
 ·intro next2 hP2 hin2;rw[qf]at hP2;refine al (fun h=>absurd h (by dsimp only;omega)) (fun _=>resq _ _ _ _ ?_);rw[hF,hP2];rfl
theorem akl:bn Tryz.prog 126 gq:=ctb (af qe (af ab8 ao)) ba 126 Tryz.f126 gq akk [(5,38)] (by kernel_rfl) rfl (fun x K=>wo x.1 K) (fun _ _=>by kernel_rfl) (fun x h1 h2=>ak2 x.1 h1 h2)
def pf(c:a8):Bool:=abg c&&(pg c).1==0
def dx:Ct:=⟨[(.pt az)],[false],fun x=>[],[(false,(.fz .bool))],fun x=>(pf x.1,()),false,none⟩
def ayz:FuncId->Option Ct:=lkp [(126,gq),(125,db)]
def sn(c:a8)(K:Bool×Unit->Prop):Prop:=(cnd (!(abg c)) (K (false,())) ((ShapeP c)/\(K (((pg c).1==0),()))))
theorem agb(c:a8)(hok:ab (okL dx.args (c,())))(hpre:ab (dx.pre (c,()))):sn c (fun r=>r=dx.res (c,())):=by
 simp only[dx,okL,T.oks,T.ok,ap,ab,a0e,a0b,a0h]at hok hpre
 try dsimp only[T.den]at hok hpre
 unfold sn;simp only[dx,pf];have:=@zy c
 grind[cnd,b9,aj]
theorem w4:bn Tryz.prog 103 dx:=ctb (af akl (af aiq ao)) ba 103 Tryz.f103 dx .n [] (by kernel_rfl) rfl (fun x K=>sn x.1 K) (fun _ _=>by kernel_rfl) (fun x h1 h2=>agb x.1 h1 h2)
def oz:Ct:=⟨[(.sl (.int .i64)),(.int .i64),(.int .i64)],[false,false,false],fun x=>[inK .i64 (x.2.2.1-1)],[(false,(.fz .bool))],fun x=>((decide ((x.1.length:Int)=x.2.1)&&bj x.1 x.2.2.1),()),false,none⟩
def aeo(f:List Int)(m:Int)(n:Int)(K:Bool×Unit->Prop):Prop:=(((((f.length:Int)==m)=true)->(inK .i64 (n-1)))/\(K ((((f.length:Int)==m)&&(bj f n)),())))
theorem axt(f:List Int)(m:Int)(n:Int)(hok:ab (okL oz.args (f,m,n,())))(hpre:ab (oz.pre (f,m,n,()))):aeo f m n (fun r=>r=oz.res (f,m,n,())):=by
 simp only[oz,okL,T.oks,T.ok,ap,ab,a0e,a0b,a0h]at hok hpre
 try dsimp only[T.den]at hok hpre
 unfold aeo;simp only[oz]
 grind[cnd,b9,aj]
theorem av4:bn Tryz.prog 105 oz:=ctb (af aal ao) ba 105 Tryz.f105 oz .n [] (by kernel_rfl) rfl (fun x K=>aeo x.1 x.2.1 x.2.2.1 K) (fun _ _=>by kernel_rfl) (fun x h1 h2=>axt x.1 x.2.1 x.2.2.1 h1 h2)
theorem ajz{c:a8}(h:pf c=true):ShapeP c:=by simp only[pf,a0a]at h;exact zy.1 h.1
def abh(f:bf)(a:Int):Bool:=decide (((f.2.2.getD a.toNat []).length:Int)=f.2.1.getD (f.1.2.1.getD a.toNat 0).toNat 0)&&bj (f.2.2.getD a.toNat []) (f.2.1.getD (f.1.2.2.1.getD a.toNat 0).toNat 0)
def t8(f:bf):Bool:=pf f.1&&decide ((f.2.1.length:Int)=f.1.1)&&bj f.2.1 17&&decide (f.2.2.length=f.1.2.1.length)&&rm f.2.2.length (abh f)
structure SfP (f:bf):Prop where
 cat:pf f.1=true
 lz:(f.2.1.length:Int)=f.1.1
 wz:bj f.2.1 17=true
 la:f.2.2.length=f.1.2.1.length
 act:∀a:Int,0<=a->a<f.1.2.1.length->((f.2.2.getD a.toNat []).length:Int)=f.2.1.getD (f.1.2.1.getD a.toNat 0).toNat 0/\bj (f.2.2.getD a.toNat []) (f.2.1.getD (f.1.2.2.1.getD a.toNat 0).toNat 0)=true
theorem bea{f:bf}:t8 f=true<->SfP f:=by
 simp only[t8,abh,a0a,a06,aex];constructor
 ·rintro⟨⟨⟨⟨h1,h2⟩,h3⟩,h4⟩,h5⟩;exact⟨h1,h2,h3,h4,fun a a0 a1=>h5 a a0 (by omega)⟩
 ·rintro⟨h1,h2,h3,h4,h5⟩;exact⟨⟨⟨⟨h1,h2⟩,h3⟩,h4⟩,fun a a0 a1=>h5 a a0 (by omega)⟩
theorem SfP.size{f:bf}(S:SfP f){x:Int}(h0:0<=x)(h1:x<f.1.1):0<=f.2.1.getD x.toNat 0/\f.2.1.getD x.toNat 0<=16:=by have:=iv.1 S.wz x h0 (by have:=S.lz;omega);exact⟨this.1,by omega⟩
def ap1(f:bf)(a e:Int):Int:=(f.2.2.getD a.toNat []).getD e.toNat 0
theorem SfP.at_{f:bf}(S:SfP f){a e:Int}(h0:0<=a)(h1:a<f.1.2.1.length)(e0:0<=e)(e1:e<f.2.1.getD (f.1.2.1.getD a.toNat 0).toNat 0) :
  e<(f.2.2.getD a.toNat []).length/\0<=ap1 f a e/\ap1 f a e<f.2.1.getD (f.1.2.2.1.getD a.toNat 0).toNat 0:=by
 obtain⟨k1,k2⟩:=S.act a h0 h1;have:=iv.1 k2 e e0 (by omega);exact⟨by omega,this.1,this.2⟩
def d7:Ct:=⟨[(.pt SetFunctorT)],[false],fun x=>[],[(false,(.fz .bool))],fun x=>(t8 x.1,()),false,none⟩
def agi:Ann:=(.s .n (.s .n (.s .n (.s (.s .n (.l [(47,(.d (.int .i64)))] [] [0,3,45,46] .n)) .n))))
def az5:FuncId->Option Ct:=lkp [(104,eu),(103,dx),(105,oz),(73,kx)]
def tb(f:bf)(K:Bool×Unit->Prop):Prop:=(((((!(pf f.1))||((f.2.1.length:Int) != f.1.1))=false)->(inK .i64 ((17:Int)-1)))/\(cnd ((((!(pf f.1))||((f.2.1.length:Int) != f.1.1))||(!(bj f.2.1 17)))||((f.2.2.length:Int) != (f.1.2.1.length:Int))) (K (false,())) (bc (S:=bux) (fun s=>(fun next=>((inK .i64 s.1.1)->(cnd (decide (s.1.1<(f.2.2.length:Int))) ((0<=s.1.1)/\((s.1.1<(f.2.2.length:Int))/\((0<=s.1.1)/\((s.1.1<(f.1.2.1.length:Int))/\((0<=(f.1.2.1.getD s.1.1.toNat 0))/\(((f.1.2.1.getD s.1.1.toNat 0)<(f.2.1.length:Int))/\((0<=s.1.1)/\((s.1.1<(f.1.2.2.1.length:Int))/\((0<=(f.1.2.2.1.getD s.1.1.toNat 0))/\(((f.1.2.2.1.getD s.1.1.toNat 0)<(f.2.1.length:Int))/\((inK .i64 ((f.2.1.getD (Int.toNat (f.1.2.2.1.getD s.1.1.toNat 0)) 0)-1))/\(cnd (!((decide ((List.length (f.2.2.getD s.1.1.toNat []):Int)=(f.2.1.getD (Int.toNat (f.1.2.1.getD s.1.1.toNat 0)) 0)))&&(bj (f.2.2.getD s.1.1.toNat []) (f.2.1.getD (Int.toNat (f.1.2.2.1.getD s.1.1.toNat 0)) 0)))) (K (false,())) ((inK .i64 (s.1.1+1))/\(next (((s.1.1+1),()),()))))))))))))))) (K (true,())))))) ((0,()),()))))
theorem ag6(f:bf)(hok:ab (okL d7.args (f,())))(hpre:ab (d7.pre (f,()))):tb f (fun r=>r=d7.res (f,())):=by
 simp only[d7,okL,T.oks,T.ok,ap,ab,a0e,a0b,a0h]at hok hpre
 try dsimp only[T.den]at hok hpre
 unfold tb;have hv:t8 f=(pf f.1&&decide ((f.2.1.length:Int)=f.1.1)&&bj f.2.1 17&&decide (f.2.2.length=f.1.2.1.length)&&rm f.2.2.length (abh f)):=rfl;have res:∀b,t8 f=b->(b,())=d7.res (f,()):=fun b h=>by simp only[d7,h]
 refine⟨fun _=>by rw[aj];(try dsimp only);omega,aw (fun hc=>res _ ?_) (fun hc=>?_)⟩
 ·rw[hv];revert hc;cases pf f.1 <;> cases bj f.2.1 17 <;> simp;omega
 simp only[a12,a1v,a1a]at hc;obtain⟨⟨⟨h1,h2⟩,h3⟩,h4⟩:=hc;have h4':f.2.2.length=f.1.2.1.length:=by omega
 rw[h1,a3h h2,h3,a3h h4']at hv;simp only[a1u]at hv;have S:=ajz h1;have hlt:=S.lt;have hm:=S.m;refine ajo f.2.2.length (abh f) ?_ ?_
 ·intro a next a0 a1 hno hyes _
  try dsimp only
  obtain⟨k1,k2,k3,k4⟩:=S.frm a0 (by omega);have hz:=iv.1 h3 _ k3 (by omega);refine al (fun _=>⟨a0,a1,a0,by omega,k1,by omega,a0,by omega,k3,by omega,by rw[aj];(try dsimp only);omega,aw (fun hx=>res _ ?_) (fun hx=>⟨by rw[aj];(try dsimp only);omega,hyes ?_⟩)⟩) (fun h=>absurd a1 h)
  ·rw[hv];refine hno ?_;unfold abh;revert hx;cases bj (f.2.2.getD a.toNat []) (f.2.1.getD (f.1.2.2.1.getD a.toNat 0).toNat 0) <;> simp
  ·unfold abh;simpa using hx
 ·intro next h _
  exact al (fun h=>absurd h (a18 _)) (fun _=>res _ (by rw[hv,h]))
theorem agm:bn Tryz.prog 84 d7:=ctb (af qe (af w4 (af av4 (af aal ao)))) ba 84 Tryz.f84 d7 agi [(2,33),(7,29)] (by kernel_rfl) rfl (fun x K=>tb x.1 K) (fun _ _=>by kernel_rfl) (fun x h1 h2=>ag6 x.1 h1 h2)
def sfI(f:bf)(x e:Int):Option bvc:=if ap1 f (f.1.2.2.2.1.getD x.toNat 0) e≠e then some (1,x,e,0)else none
def aim(f:bf)(x:Int):Option bvc:=d8 (sfI f x) (f.2.1.getD x.toNat 0).toNat 0
def sfC(f:bf)(a b e:Int):Option bvc:=if ap1 f (fp f.1 a b) e≠ap1 f b (ap1 f a e)then some (2,a,b,e)else none
def ad1(f:bf)(a b:Int):Option bvc:=if f.1.2.2.1.getD a.toNat 0=f.1.2.1.getD b.toNat 0 then d8 (sfC f a b) (f.2.1.getD (f.1.2.1.getD a.toNat 0).toNat 0).toNat 0 else none
def ai7(f:bf)(a:Int):Option bvc:=d8 (ad1 f a) f.1.2.1.length 0
def kt(f:bf):Int×Int×Int×Int:=orR (d8 (aim f) f.1.1.toNat 0) (orR (d8 (ai7 f) f.1.2.1.length 0) (0,0,0,0))
def ff:Ct:=⟨[(.pt SetFunctorT)],[false],fun x=>[SfP x.1],[(false,(.fz (.int .i64))),(false,(.fz (.int .i64))),(false,(.fz (.int .i64))),(false,(.fz (.int .i64)))],fun x=>((kt x.1).1,(kt x.1).2.1,(kt x.1).2.2.1,(kt x.1).2.2.2,()),false,none⟩
def ah3:Ann:=(.s .n (.s .n (.s (.s .n (.l [(25,(.d (.int .i64)))] [] [0,6,23,24] (.s .n (.s .n (.s (.s .n (.s .n (.l [(38,(.d (.int .i64)))] [] [0,6,7,23,24,25,36,37] .n))) .n))))) (.s (.s .n (.l [(55,(.d (.int .i64)))] [] [0,53,54] (.s .n (.s .n (.s (.s .n (.s .n (.l [(62,(.d (.int .i64)))] [] [0,11,53,54,55,60,61] (.s .n (.s .n (.s (.j [] [] [0,11,53,54,55,60,61,62] (.s .n (.s .n (.s .n (.l [(77,(.d (.int .i64)))] [] [0,11,13,14,53,54,55,60,61,62,75,76] .n))))) .n)))))) .n))))) .n))))
def ut(f:bf)(K:Int×Int×Int×Int×Unit->Prop):Prop:=(bc (S:=bux) (fun s=>(fun next=>((inK .i64 s.1.1)->(cnd (decide (s.1.1<(f.1.2.2.2.1.length:Int))) ((0<=s.1.1)/\((s.1.1<(f.1.2.2.2.1.length:Int))/\((0<=(f.1.2.2.2.1.getD s.1.1.toNat 0))/\(((f.1.2.2.2.1.getD s.1.1.toNat 0)<(f.2.2.length:Int))/\(bc (S:=bux) (fun s1=>(fun next1=>((inK .i64 s1.1.1)->(cnd (decide (s1.1.1<(((List.length (f.2.2.getD (Int.toNat (f.1.2.2.2.1.getD s.1.1.toNat 0)) [])):Nat):Int))) ((0<=s1.1.1)/\((s1.1.1<(((List.length (f.2.2.getD (Int.toNat (f.1.2.2.2.1.getD s.1.1.toNat 0)) [])):Nat):Int))/\(cnd ((List.getD (f.2.2.getD (Int.toNat (f.1.2.2.2.1.getD s.1.1.toNat 0)) []) s1.1.1.toNat 0) != s1.1.1) (K (1,(s.1.1,(s1.1.1,(0,()))))) ((inK .i64 (s1.1.1+1))/\(next1 (((s1.1.1+1),()),())))))) ((inK .i64 (s.1.1+1))/\(next (((s.1.1+1),()),()))))))) ((0,()),())))))) (bc (S:=bux) (fun s1=>(fun next1=>((inK .i64 s1.1.1)->(cnd (decide (s1.1.1<(f.1.2.2.2.2.length:Int))) ((0<=s1.1.1)/\((s1.1.1<(f.1.2.2.2.2.length:Int))/\(bc (S:=bux) (fun s2=>(fun next2=>((inK .i64 s2.1.1)->(cnd (decide (s2.1.1<(List.length (f.1.2.2.2.2.getD s1.1.1.toNat []):Int))) (jd (S:=(Unit×Unit)) (fun s3=>((inK .i64 (s2.1.1+1))/\(next2 (((s2.1.1+1),()),())))) (fun k=>((0<=s2.1.1)/\((s2.1.1<(List.length (f.1.2.2.2.2.getD s1.1.1.toNat []):Int))/\(cnd (decide ((List.getD (f.1.2.2.2.2.getD s1.1.1.toNat []) s2.1.1.toNat 0)<0)) (k ((),())) ((0<=s1.1.1)/\((s1.1.1<(f.2.2.length:Int))/\(bc (S:=bux) (fun s3=>(fun next3=>((inK .i64 s3.1.1)->(cnd (decide (s3.1.1<(List.length (f.2.2.getD s1.1.1.toNat []):Int))) ((0<=s3.1.1)/\((s3.1.1<(List.length (f.2.2.getD s1.1.1.toNat []):Int))/\((0<=(List.getD (f.1.2.2.2.2.getD s1.1.1.toNat []) s2.1.1.toNat 0))/\(((List.getD (f.1.2.2.2.2.getD s1.1.1.toNat []) s2.1.1.toNat 0)<(f.2.2.length:Int))/\((0<=s3.1.1)/\((s3.1.1<(((List.length (f.2.2.getD (Int.toNat (List.getD (f.1.2.2.2.2.getD s1.1.1.toNat []) s2.1.1.toNat 0)) [])):Nat):Int))/\((0<=s2.1.1)/\((s2.1.1<(f.2.2.length:Int))/\((0<=(List.getD (f.2.2.getD s1.1.1.toNat []) s3.1.1.toNat 0))/\(((List.getD (f.2.2.getD s1.1.1.toNat []) s3.1.1.toNat 0)<(List.length (f.2.2.getD s2.1.1.toNat []):Int))/\(cnd ((List.getD (f.2.2.getD (Int.toNat (List.getD (f.1.2.2.2.2.getD s1.1.1.toNat []) s2.1.1.toNat 0)) []) s3.1.1.toNat 0) != (List.getD (f.2.2.getD s2.1.1.toNat []) (Int.toNat (List.getD (f.2.2.getD s1.1.1.toNat []) s3.1.1.toNat 0)) 0)) (K (2,(s1.1.1,(s2.1.1,(s3.1.1,()))))) ((inK .i64 (s3.1.1+1))/\(next3 (((s3.1.1+1),()),())))))))))))))) (k ((),())))))) ((0,()),()))))))))) ((inK .i64 (s1.1.1+1))/\(next1 (((s1.1.1+1),()),()))))))) ((0,()),())))) (K (0,(0,(0,(0,()))))))))) ((0,()),())))))) ((0,()),()))
theorem ajk(f:bf)(hok:ab (okL ff.args (f,())))(hpre:ab (ff.pre (f,()))):ut f (fun r=>r=ff.res (f,())):=by
 simp only[ff,okL,T.oks,T.ok,ap,ab,a0e,a0b,a0h]at hok hpre
 try dsimp only[T.den]at hok hpre
 unfold ut;have P:SfP f:=hpre;have S:=ajz P.cat;have hlt:=S.lt;have hli:=S.li;have hlc:=S.lc;have hmm:=S.m;have hob:=S.ob;have hlz:=P.lz;have hla:=P.la;have resq:∀a b d e,kt f=(a,b,d,e)->(a,b,d,e,())=ff.res (f,()):=fun a b d e h=>by simp only[ff,h]
 have hac:∀a e:Int,(f.2.2.getD a.toNat []).getD e.toNat 0=ap1 f a e:=fun _ _=>rfl;have hcr:∀a b:Int,(f.1.2.2.2.2.getD a.toNat []).getD b.toNat 0=fp f.1 a b:=fun _ _=>rfl;simp only[hac,hcr];refine fx (n:=f.1.1) (fun x=>d8 (aim f) f.1.1.toNat 0=d8 (aim f) (f.1.1-x).toNat x) (by omega) (by rw[a3i]) ?_ ?_
 ·intro x next x0 x1 hP hn hin
  try dsimp only
  obtain⟨b1,b2,b3,b4⟩:=S.idn x0 x1;obtain⟨z1,z2⟩:=P.size x0 x1;obtain⟨q1,q2⟩:=P.act _ b1 b2;rw[b3]at q1;refine al (fun _=>⟨x0,by omega,b1,by omega,?_⟩) (fun h=>absurd h (by omega));refine fx (n:=f.2.1.getD x.toNat 0) (fun e=>aim f x=d8 (sfI f x) (f.2.1.getD x.toNat 0-e).toNat e) z1 (by unfold aim;rw[a3i]) ?_ ?_
  ·intro e next2 e0 e1 hP2 hn2 hin2
   try dsimp only
   refine al (fun _=>⟨e0,by omega,aw (fun hx=>resq _ _ _ _ ?_) (fun hx=>⟨by rw[aj];(try dsimp only);omega,hn2 ?_⟩)⟩) (fun h=>absurd h (by omega))
   ·have k1:sfI f x e=some (1,x,e,0):=by unfold sfI;rw[d0];simpa using hx
    have k2:aim f x=some (1,x,e,0):=by rw[hP2,qi e1 k1]
    unfold kt;rw[hP,qi x1 k2];rfl
   ·have k1:sfI f x e=none:=by unfold sfI;rw[ds];simpa using hx
    rw[hP2,qh e1 k1]
  ·intro next2 hP2 hin2
   try dsimp only
   rw[qf]at hP2;exact al (fun h=>absurd h (by omega)) (fun _=>⟨by rw[aj];(try dsimp only);omega,hn (by rw[hP,qh x1 hP2])⟩)
 intro next hI hin
 rw[qf]at hI;refine al (fun h=>absurd h (by dsimp only;omega)) (fun _=>?_);have hF:kt f=orR (d8 (ai7 f) f.1.2.1.length 0) (0,0,0,0):=by unfold kt;rw[hI];rfl
 refine fx (n:=f.1.2.1.length) (fun a=>d8 (ai7 f) f.1.2.1.length 0=d8 (ai7 f) ((f.1.2.1.length:Int)-a).toNat a) (by omega) x9 ?_ ?_
 ·intro a next a0 a1 hP hn hin
  try dsimp only
  have r1:=S.row a a0 a1;obtain⟨q1,q2⟩:=P.act _ a0 a1;obtain⟨fa1,fa2,ta1,ta2⟩:=S.frm a0 a1;obtain⟨z1,z2⟩:=P.size fa1 fa2;refine al (fun _=>⟨a0,by omega,?_⟩) (fun h=>absurd h (by omega));refine fx (n:=f.1.2.1.length) (fun b=>ai7 f a=d8 (ad1 f a) ((f.1.2.1.length:Int)-b).toNat b) (by omega) x9 ?_ ?_
  ·intro b next2 b0 b1 hP2 hn2 hin2
   try dsimp only
   refine al (fun _=>?_) (fun h=>absurd h (by omega));refine g7 (fun _=>ad1 f a b=none) (fun _ hG=>⟨by rw[aj];(try dsimp only);omega,hn2 (by rw[hP2,qh b1 hG])⟩) (fun k hk=>?_);have hk':=hk ((),());refine⟨b0,by omega,al (fun hx=>hk' ?_) (fun hx=>?_)⟩
   ·unfold ad1;rw[ds];intro e;have:=(S.comp a0 a1 b0 b1).2 e;omega
   have hab:=(S.comp a0 a1 b0 b1).1 (by omega);obtain⟨y1,y2,y3,y4⟩:=S.yes a0 a1 b0 b1 hab;obtain⟨p1,p2⟩:=P.act _ y1 y2;rw[y3]at p1;obtain⟨p3,p4⟩:=P.act _ b0 b1;rw[←hab]at p3;refine⟨a0,by omega,?_⟩;refine fx (n:=f.2.1.getD (f.1.2.1.getD a.toNat 0).toNat 0) (fun e=>ad1 f a b=d8 (sfC f a b) (f.2.1.getD (f.1.2.1.getD a.toNat 0).toNat 0-e).toNat e) z1 (by unfold ad1;rw[d0 hab,a3i]) ?_ ?_
   ·intro e next3 e0 e1 hP3 hn3 hin3
    try dsimp only
    obtain⟨m1,m2,m3⟩:=P.at_ a0 a1 e0 e1;refine al (fun _=>⟨e0,by omega,y1,by omega,e0,by omega,b0,by omega,m2,by omega,aw (fun hx=>resq _ _ _ _ ?_) (fun hx=>⟨by rw[aj];(try dsimp only);omega,hn3 ?_⟩)⟩) (fun h=>absurd h (by omega))
    ·have k0:sfC f a b e=some (2,a,b,e):=by unfold sfC;rw[d0];simpa using hx
     have k1:ad1 f a b=some (2,a,b,e):=by rw[hP3,qi e1 k0]
     have k2:ai7 f a=some (2,a,b,e):=by rw[hP2,qi b1 k1]
     rw[hF,hP,qi a1 k2];rfl
    ·have k0:sfC f a b e=none:=by unfold sfC;rw[ds];simpa using hx
     rw[hP3,qh e1 k0]
   ·intro next3 hP3 hin3
    try dsimp only
    rw[qf]at hP3;exact al (fun h=>absurd h (by omega)) (fun _=>hk' hP3)
  ·intro next2 hP2 hin2
   try dsimp only
   rw[qf]at hP2;exact al (fun h=>absurd h (by omega)) (fun _=>⟨by rw[aj];(try dsimp only);omega,hn (by rw[hP,qh a1 hP2])⟩)
 ·intro next2 hP2 hin2;rw[qf]at hP2;refine al (fun h=>absurd h (by dsimp only;omega)) (fun _=>resq _ _ _ _ ?_);rw[hF,hP2];rfl
theorem aiv:bn Tryz.prog 85 ff:=ctb ao ba 85 Tryz.f85 ff ah3 [(22,21)] (by kernel_rfl) rfl (fun x K=>ut x.1 K) (fun _ _=>by kernel_rfl) (fun x h1 h2=>ajk x.1 h1 h2)
def pd(f:bf):Bool:=t8 f&&(kt f).1==0
theorem ax2{f:bf}(h:pd f=true):SfP f:=by simp only[pd,a0a]at h;exact bea.1 h.1
def dp:Ct:=⟨[(.pt SetFunctorT)],[false],fun x=>[],[(false,(.fz .bool))],fun x=>(pd x.1,()),false,none⟩
def at5:FuncId->Option Ct:=lkp [(85,ff),(84,d7)]
def pk(f:bf)(K:Bool×Unit->Prop):Prop:=(cnd (!(t8 f)) (K (false,())) ((SfP f)/\(K (((kt f).1==0),()))))
theorem acy(f:bf)(hok:ab (okL dp.args (f,())))(hpre:ab (dp.pre (f,()))):pk f (fun r=>r=dp.res (f,())):=by
 simp only[dp,okL,T.oks,T.ok,ap,ab,a0e,a0b,a0h]at hok hpre
 try dsimp only[T.den]at hok hpre
 unfold pk;have h1:=@bea f;simp only[dp,pd]
 grind[cnd,b9,aj]
theorem acj:bn Tryz.prog 61 dp:=ctb (af aiv (af agm ao)) ba 61 Tryz.f61 dp .n [] (by kernel_rfl) rfl (fun x K=>pk x.1 K) (fun _ _=>by kernel_rfl) (fun x h1 h2=>acy x.1 h1 h2)
def n7:Ct:=⟨[(.sl (.int .i64))],[false],fun x=>[x.1.length<=1099511627776],[(false,(.sl (.fz (.int .i64))))],fun x=>(x.1,()),false,none⟩
def ain(list:List Int)(K:(List Int)×Unit->Prop):Prop:=((ey 0 list.length 8)/\(K (list,())))
theorem bd2(list:List Int)(hok:ab (okL n7.args (list,())))(hpre:ab (n7.pre (list,()))):ain list (fun r=>r=n7.res (list,())):=by
 simp only[n7,okL,T.oks,T.ok,ap,ab,a0e,a0b,a0h]at hok hpre
 try dsimp only[T.den]at hok hpre
 unfold ain;have hl:list.length<=1099511627776:=hpre;exact⟨c7 (by omega),rfl⟩
theorem sj:bn Tryz.prog 77 n7:=ctb ao ba 77 Tryz.f77 n7 .n [] (by kernel_rfl) rfl (fun x K=>ain x.1 K) (fun _ _=>by kernel_rfl) (fun x h1 h2=>bd2 x.1 h1 h2)
structure EdmP (k:T.den g8) (f:bf):Prop where
 n:k.2.2.1.length<=8
 r:∀a∈k.2.2.1,0<=a/\a<f.2.2.length
 l:∀r∈f.2.2,r.length<=1000
def apz(k:T.den g8)(f:bf):List (List Int):=k.2.2.1.map fun a=>f.2.2.getD a.toNat []
def fu:Ct:=⟨[(.pt g8),(.pt SetFunctorT)],[false,false],fun x=>[EdmP x.1 x.2.1],[(false,(.sl (.sl (.fz (.int .i64)))))],fun x=>(apz x.1 x.2.1,()),false,none⟩
def aga:Ann:=(.s .n (.s .n (.s (.s .n (.l [(5,(.ref 800005 [])),(14,(.d (.int .i64)))] [(800005,(.sl (.sl (.fz (.int .i64)))))] [1,12,13] .n)) .n)))
def th(k:T.den g8)(f:bf)(K:bu4×Unit->Prop):Prop:=(bc (S:=bu8) (fun s=>(fun next=>((inK .i64 s.1.2.1)->((T.ok (.sl (.sl (.int .i64))) s.2.1)->(cnd (decide (s.1.2.1<(k.2.2.1.length:Int))) ((0<=s.1.2.1)/\((s.1.2.1<(k.2.2.1.length:Int))/\((0<=(k.2.2.1.getD s.1.2.1.toNat 0))/\(((k.2.2.1.getD s.1.2.1.toNat 0)<(f.2.2.length:Int))/\(((List.length (f.2.2.getD (Int.toNat (k.2.2.1.getD s.1.2.1.toNat 0)) []))<=1099511627776)/\((ey s.2.1.length (List.length ((f.2.2.getD (Int.toNat (k.2.2.1.getD s.1.2.1.toNat 0)) [])::[])) 24)/\((inK .i64 (s.1.2.1+1))/\(next (((),((s.1.2.1+1),())),((s.2.1++((f.2.2.getD (Int.toNat (k.2.2.1.getD s.1.2.1.toNat 0)) [])::[])),())))))))))) (K (s.2.1,()))))))) (((),(0,())),([],())))
theorem ahc(k:T.den g8)(f:bf)(hok:ab (okL fu.args (k,f,())))(hpre:ab (fu.pre (k,f,()))):th k f (fun r=>r=fu.res (k,f,())):=by
 simp only[fu,okL,T.oks,T.ok,ap,ab,a0e,a0b,a0h]at hok hpre
 try dsimp only[T.den]at hok hpre
 unfold th;have hP:EdmP k f:=hpre;have hn:=hP.n;refine zq (fun i=>(k.2.2.1.take i.toNat).map fun a=>f.2.2.getD a.toNat []) (n:=k.2.2.1.length) (by omega) rfl ?_ ?_
 ·intro i next i0 i1 hn2
  intros
  try dsimp only
  have he:=hP.r _ (fb k.2.2.1 0 i0 i1);have hl:=hP.l _ (fb f.2.2 [] he.1 he.2);have ht:=ii k.2.2.1 0 i0 i1;rw[ht,a2o]at hn2;refine al (fun _=>⟨i0,i1,he.1,he.2,by omega,c7 ?_,by rw[aj];(try dsimp only);omega,hn2⟩) (fun h=>absurd i1 h);rw[a0x,a1d];simp only[a0l,a0p];omega
 ·intro next
  intros
  try dsimp only
  refine al (fun h=>absurd h (a18 _)) (fun _=>?_);simp only[fu,apz];rw[jr _ (a0r _)]
theorem agu:bn Tryz.prog 63 fu:=ctb (af sj ao) ba 63 Tryz.f63 fu aga [] (by kernel_rfl) rfl (fun x K=>th x.1 x.2.1 K) (fun _ _=>by kernel_rfl) (fun x h1 h2=>ahc x.1 x.2.1 h1 h2)
def gf:List Int->List Int->Int
 |[],[]=>0
 |[],_::_=>-1
 |_::_,[]=>1
 |x::a,y::b=>if x=y then gf a b else if x<y then -1 else 1
theorem aky{a b:List Int}:gf a b=0<->a=b:=by
 induction a generalizing b with
 |nil=>cases b <;> simp[gf]
 |cons x a ih=>cases b with
  |nil=>simp[gf]
  |cons y b=>
   simp only[gf,a0i];by_cases h:x=y
   ·rw[d0 h,ih];simp[h]
   ·rw[ds h];split <;> simp[h]
def jk:Ct:=⟨[(.sl (.int .i64)),(.sl (.int .i64))],[false,false],fun x=>[],[(false,(.fz (.int .i64)))],fun x=>(gf x.1 x.2.1,()),false,none⟩
def au9:Ann:=(.s .n (.s (.s .n (.l [(8,(.d (.int .i64)))] [] [0,1,7] .n)) .n))
def aeb(a:List Int)(b:List Int)(K:Int×Unit->Prop):Prop:=(bc (S:=bux) (fun s=>(fun next=>((inK .i64 s.1.1)->(cnd (decide (s.1.1<(a.length:Int))) (cnd (s.1.1==(b.length:Int)) (K (1,())) ((0<=s.1.1)/\((s.1.1<(a.length:Int))/\((0<=s.1.1)/\((s.1.1<(b.length:Int))/\(cnd ((a.getD s.1.1.toNat 0) != (b.getD s.1.1.toNat 0)) ((0<=s.1.1)/\((s.1.1<(a.length:Int))/\((0<=s.1.1)/\((s.1.1<(b.length:Int))/\(cnd (decide ((a.getD s.1.1.toNat 0)<(b.getD s.1.1.toNat 0))) (K ((-1),())) (K (1,()))))))) ((inK .i64 (s.1.1+1))/\(next (((s.1.1+1),()),()))))))))) (cnd (decide ((a.length:Int)<(b.length:Int))) (K ((-1),())) (K (0,()))))))) ((0,()),()))
theorem aya(a:List Int)(b:List Int)(hok:ab (okL jk.args (a,b,())))(hpre:ab (jk.pre (a,b,()))):aeb a b (fun r=>r=jk.res (a,b,())):=by
 simp only[jk,okL,T.oks,T.ok,ap,ab,a0e,a0b,a0h]at hok hpre
 try dsimp only[T.den]at hok hpre
 unfold aeb;have ha:a.length<=140737488355328:=by simp only[b9]at hok;omega
 clear hok;refine fx (n:=a.length) (fun i=>i<=b.length/\gf a b=gf (a.drop i.toNat) (b.drop i.toNat)) (by omega) ⟨by omega,by simp⟩ ?_ ?_
 ·intro i next i0 i1 hP hn hin
  obtain⟨hb,hP⟩:=hP;rw[mn a 0 i0 i1]at hP;refine al (fun _=>aw (fun h=>?_) (fun h=>?_)) (fun h=>absurd i1 h)
  ·rw[a0t]at h;rw[pc b (by dsimp only at h;omega)]at hP;simp only[jk,hP,gf]
  ·rw[a2b]at h
   try dsimp only at h⊢
   rw[mn b 0 i0 (by omega)]at hP;simp only[gf]at hP;have hiK:inK .i64 (i+1):=by rw[aj];(try dsimp only);omega
   refine⟨i0,i1,i0,by omega,aw (fun h1=>?_) (fun h1=>?_)⟩
   ·rw[a3y]at h1;rw[ds h1]at hP;refine⟨i0,i1,i0,by omega,al (fun h2=>?_) (fun h2=>?_)⟩
    ·rw[d0 h2]at hP;simp only[jk,hP]
    ·rw[ds h2]at hP;simp only[jk,hP]
   ·rw[a1a]at h1;rw[d0 h1]at hP;exact⟨hiK,hn ⟨by omega,hP⟩⟩
 ·intro next hP hin
  obtain⟨hb,hP⟩:=hP;rw[pc a (a0r _)]at hP;refine al (fun h=>absurd h (by dsimp only;omega)) (fun _=>al (fun h=>?_) (fun h=>?_))
  ·rw[mn b 0 (by omega) h]at hP;simp only[jk,hP,gf]
  ·rw[pc b (by omega)]at hP;simp only[jk,hP,gf]
theorem acs:bn Tryz.prog 106 jk:=ctb ao ba 106 Tryz.f106 jk au9 [(6,9),(7,9)] (by kernel_rfl) rfl (fun x K=>aeb x.1 x.2.1 K) (fun _ _=>by kernel_rfl) (fun x h1 h2=>aya x.1 x.2.1 h1 h2)
def tx:Ct:=⟨[(.sl (.int .i64)),(.sl (.int .i64))],[false,false],fun x=>[],[(false,(.fz .bool))],fun x=>(eqR (.sl (.int .i64)) x.1 x.2.1,()),false,none⟩
def akg(a:List Int)(b:List Int)(K:Bool×Unit->Prop):Prop:=(K (((gf a b)==0),()))
theorem bep(a:List Int)(b:List Int)(hok:ab (okL tx.args (a,b,())))(hpre:ab (tx.pre (a,b,()))):akg a b (fun r=>r=tx.res (a,b,())):=by
 simp only[tx,okL,T.oks,T.ok,ap,ab,a0e,a0b,a0h]at hok hpre
 try dsimp only[T.den]at hok hpre
 unfold akg;have h:=@aky a b;have h2:(gf a b==0)=eqR (.sl (.int .i64)) a b:=by rw[a3x,a0t,h,dc]
 simp only[tx,h2]
theorem apb:bn Tryz.prog 86 tx:=ctb (af acs ao) ba 86 Tryz.f86 tx .n [] (by kernel_rfl) rfl (fun x K=>akg x.1 x.2.1 K) (fun _ _=>by kernel_rfl) (fun x h1 h2=>bep x.1 x.2.1 h1 h2)
structure UfP (j:List Int):Prop where
 le:∀i:Int,0<=i->i<j.length->0<=j.getD i.toNat 0/\j.getD i.toNat 0<=i
def aju:Nat->List Int->Int->List Int×Int
 |0,j,x=>(j,x)
 |n+1,j,x=>if j.getD x.toNat 0=x then (j,x)else aju n (j.set x.toNat (j.getD (j.getD x.toNat 0).toNat 0)) (j.getD (j.getD x.toNat 0).toNat 0)
def cw(j:List Int)(x:Int):List Int×Int:=aju j.length j x
def aow:Nat->List Int->Int->Int
 |0,_,x=>x
 |n+1,j,x=>if j.getD x.toNat 0=x then x else aow n j (j.getD x.toNat 0)
def ez(j:List Int)(x:Int):Int:=aow j.length j x
theorem blj{j:List Int}(U:UfP j):∀(n:Nat) (x:Int),0<=x->x<j.length->x.toNat<=n->aow (n+1) j x=aow n j x
 |0,x,x0,x1,h=>by have:=U.le x x0 x1;simp only[aow];rw[d0 (by omega)]
 |n+1,x,x0,x1,h=>by
  have:=U.le x x0 x1;show (if j.getD x.toNat 0=x then x else aow (n+1) j (j.getD x.toNat 0))=(if j.getD x.toNat 0=x then x else aow n j (j.getD x.toNat 0));split
  ·rfl
  ·exact blj U n _ this.1 (by omega) (by omega)
theorem afe{j:List Int}(U:UfP j){x:Int}(x0:0<=x)(x1:x<j.length):ez j x=if j.getD x.toNat 0=x then x else ez j (j.getD x.toNat 0):=by
 have:=U.le x x0 x1;unfold ez;obtain⟨m,hm⟩:∃m,j.length=m+1:=⟨j.length-1,by omega⟩;rw[hm]
 conv=>lhs;rw[aow]
 split
 ·rfl
 ·rw[blj U m _ this.1 (by omega) (by omega)]
theorem bd3{j:List Int}{p:Int->Prop}(h:∀x:Int,0<=x->x<j.length->(∀y:Int,0<=y->y<x->p y)->p x){x:Int}(x0:0<=x)(x1:x<j.length):p x:=by
 have key:∀n:Nat,∀x:Int,0<=x->x<j.length->x.toNat<n->p x:=by
  intro n
  induction n with
  |zero=>intro x _ _ hx;omega
  |succ n ih=>intro x x0 x1 hx;exact h x x0 x1 fun y y0 y1=>ih y y0 (by omega) (by omega)
 exact key (x.toNat+1) x x0 x1 (by omega)
theorem baw{j:List Int}(U:UfP j){x:Int}(x0:0<=x)(x1:x<j.length):0<=ez j x/\ez j x<=x/\j.getD (ez j x).toNat 0=ez j x:=by
 refine bd3 (j:=j) (p:=fun x=>0<=ez j x/\ez j x<=x/\j.getD (ez j x).toNat 0=ez j x) (fun x x0 x1 ih=>?_) x0 x1;have:=U.le x x0 x1;rw[afe U x0 x1];split
 ·rename_i h;exact⟨x0,a0r _,h⟩
 ·rename_i h;have hp:=ih _ this.1 (by omega);exact⟨hp.1,by omega,hp.2.2⟩
theorem yc{j:List Int}(U:UfP j){x:Int}(x0:0<=x)(x1:x<j.length)(h:j.getD x.toNat 0=x):ez j x=x:=by rw[afe U x0 x1,d0 h]
theorem av9{j:List Int}{x y v:Int}(x0:0<=x)(x1:x<j.length)(y0:0<=y):(j.set x.toNat v).getD y.toNat 0=if y=x then v else j.getD y.toNat 0:=by
 rw[ab3 _ _ _ _ _ (by omega)];by_cases h:y=x
 ·rw[d0 h,d0 (by rw[h])]
 ·rw[ds h,ds (by omega)]
theorem afp{j:List Int}(U:UfP j){x v:Int}(x0:0<=x)(x1:x<j.length)(v0:0<=v)(v1:v<=x):UfP (j.set x.toNat v):=by
 refine⟨fun i i0 i1=>?_⟩;rw[a1h]at i1;rw[av9 x0 x1 i0];split
 ·omega
 ·exact U.le i i0 i1
theorem bdn{j:List Int}(U:UfP j){x:Int}(x0:0<=x)(x1:x<j.length){y:Int}(y0:0<=y)(y1:y<j.length):ez (j.set x.toNat (j.getD (j.getD x.toNat 0).toNat 0)) y=ez j y:=by
 have hx:=U.le x x0 x1;have hp:=U.le _ hx.1 (by omega);have U':=afp U x0 x1 hp.1 (by omega);refine bd3 (j:=j) (p:=fun y=>ez (j.set x.toNat (j.getD (j.getD x.toNat 0).toNat 0)) y=ez j y) (fun y y0 y1 ih=>?_) y0 y1;rw[afe U' y0 (by rw[a1h];exact y1),av9 x0 x1 y0];by_cases h:y=x
 ·subst h;simp only[a01];split
  ·rename_i hq;have:j.getD y.toNat 0=y:=by omega
   rw[yc U y0 y1 this]
  ·rename_i hq;rw[ih _ hp.1 (by omega)];rw[afe U y0 y1];have hne:¬j.getD y.toNat 0=y:=fun e=>hq (by rw[e,e]);rw[ds hne,afe U hx.1 (by omega)];split
   ·rename_i he;rw[he];exact yc U hx.1 (by omega) he
   ·rfl
 ·simp only[ds h];have hy:=U.le y y0 y1;rw[afe U y0 y1];split
  ·rfl
  ·exact ih _ hy.1 (by omega)
theorem bew{j:List Int}(U:UfP j):∀(n:Nat) (j:List Int) (x:Int),UfP j->0<=x->x<j.length->x.toNat<=n->aju (n+1) j x=aju n j x
 |0,j,x,U,x0,x1,h=>by have:=U.le x x0 x1;simp only[aju];rw[d0 (by omega)]
 |n+1,j,x,U,x0,x1,h=>by
  have hx:=U.le x x0 x1;have hp:=U.le _ hx.1 (by omega);show (if j.getD x.toNat 0=x then (j,x)else aju (n+1) (j.set x.toNat (j.getD (j.getD x.toNat 0).toNat 0)) (j.getD (j.getD x.toNat 0).toNat 0))=(if j.getD x.toNat 0=x then (j,x)else aju n (j.set x.toNat (j.getD (j.getD x.toNat 0).toNat 0)) (j.getD (j.getD x.toNat 0).toNat 0));split
  ·rfl
  ·exact bew U n _ _ (afp U x0 x1 hp.1 (by omega)) hp.1 (by rw[a1h];omega) (by omega)
theorem blw{j:List Int}(U:UfP j){x:Int}(x0:0<=x)(x1:x<j.length):cw j x=if j.getD x.toNat 0=x then (j,x)else cw (j.set x.toNat (j.getD (j.getD x.toNat 0).toNat 0)) (j.getD (j.getD x.toNat 0).toNat 0):=by
 have hx:=U.le x x0 x1;have hp:=U.le _ hx.1 (by omega);unfold cw;rw[a1h];obtain⟨m,hm⟩:∃m,j.length=m+1:=⟨j.length-1,by omega⟩;rw[hm]
 conv=>lhs;rw[aju]
 split
 ·rfl
 ·rw[bew U m _ _ (afp U x0 x1 hp.1 (by omega)) hp.1 (by rw[a1h];omega) (by omega)]
theorem bll:∀(n:Nat) {j:List Int},UfP j->∀{x:Int},0<=x->x<j.length->x.toNat<n->UfP (cw j x).1/\(cw j x).1.length=j.length/\(cw j x).2=ez j x/\∀y:Int,0<=y->y<j.length->ez (cw j x).1 y=ez j y
 |0,j,U,x,x0,x1,h=>by omega
 |n+1,j,U,x,x0,x1,h=>by
  have hx:=U.le x x0 x1;have hp:=U.le _ hx.1 (by omega);have U':=afp U x0 x1 hp.1 (by omega);rw[blw U x0 x1];split
  ·rename_i he;exact⟨U,rfl,(yc U x0 x1 he).symm,fun y _ _=>rfl⟩
  ·rename_i he;obtain⟨h1,h2,h3,h4⟩:=bll n U' hp.1 (by rw[a1h];omega) (by omega);rw[a1h]at h2;refine⟨h1,h2,?_,fun y y0 y1=>?_⟩
   ·rw[h3,bdn U x0 x1 hp.1 (by omega)];rw[afe U x0 x1,ds he];by_cases hq:j.getD (j.getD x.toNat 0).toNat 0=j.getD x.toNat 0
    ·rw[hq]
    ·rw[afe U hx.1 (by omega),ds hq]
   ·rw[h4 y y0 (by rw[a1h];exact y1),bdn U x0 x1 y0 y1]
theorem ak6{j:List Int}(U:UfP j){x:Int}(x0:0<=x)(x1:x<j.length):UfP (cw j x).1/\(cw j x).1.length=j.length/\(cw j x).2=ez j x/\∀y:Int,0<=y->y<j.length->ez (cw j x).1 y=ez j y:=bll (x.toNat+1) U x0 x1 (by omega)
def jv:Wt:=⟨(.sl (.fz (.int .i64))),[(.int .i64)],[false],fun x y=>[UfP x,0<=y.1,y.1<x.length],fun x y=>(cw x y.1).1,[(false,(.fz (.int .i64)))],fun x y=>((cw x y.1).2,())⟩
def zw:Ct:=ax3 jv
def an2:Ann:=(.s .n (.s (.l [(0,(.ref 1000000 [])),(1,(.d (.int .i64)))] [(1000000,(.sl (.fz (.int .i64))))] [] .n) .n))
def af7(j:List Int)(x:Int)(K:(List Int)->(Int×Unit)->Prop):Prop:=(bc (S:=(buw×buz)) (fun s=>(fun next=>((inK .i64 s.1.2.1)->((T.ok (.sl (.int .i64)) s.2.1)->((0<=s.1.2.1)/\((s.1.2.1<(s.2.1.length:Int))/\(cnd ((s.2.1.getD s.1.2.1.toNat 0) != s.1.2.1) ((0<=s.1.2.1)/\((s.1.2.1<(s.2.1.length:Int))/\((0<=(s.2.1.getD s.1.2.1.toNat 0))/\(((s.2.1.getD s.1.2.1.toNat 0)<(s.2.1.length:Int))/\((0<=s.1.2.1)/\((s.1.2.1<(s.2.1.length:Int))/\((0<=s.1.2.1)/\((s.1.2.1<(((List.length (List.set s.2.1 s.1.2.1.toNat (s.2.1.getD (Int.toNat (s.2.1.getD s.1.2.1.toNat 0)) 0))):Nat):Int))/\(next (((),((List.getD (List.set s.2.1 s.1.2.1.toNat (s.2.1.getD (Int.toNat (s.2.1.getD s.1.2.1.toNat 0)) 0)) s.1.2.1.toNat 0),())),((List.set s.2.1 s.1.2.1.toNat (s.2.1.getD (Int.toNat (s.2.1.getD s.1.2.1.toNat 0)) 0)),()))))))))))) (K s.2.1 (s.1.2.1,()))))))))) (((),(x,())),(j,())))
theorem aor(j:List Int)(x:Int)(hok:ab (jv.o.strip.oks j))(hok2:ab (okL jv.as (x,())))(hpre:ab (jv.pre j (x,()))):af7 j x (fun z r=>z=jv.new j (x,())/\r=jv.res j (x,())):=by
 simp only[jv,O.strip,okL,T.oks,T.ok,ap,ab,a0e,a0b,a0h]at hok hok2 hpre
 try dsimp only[T.den]at hok
 try dsimp only[T.den]at hok2
 try dsimp only[T.den]at hpre
 unfold af7;obtain⟨U,x0,x1⟩:=hpre;clear hok;refine bz (fun (s:(buw×buz))=>UfP s.2.1/\0<=s.1.2.1/\s.1.2.1<s.2.1.length/\cw s.2.1 s.1.2.1=cw j x) (fun (s:(buw×buz))=>s.1.2.1.toNat) ?_ ⟨U,x0,x1,rfl⟩;rintro⟨⟨_,y,_⟩,l,_⟩ next ⟨V,y0,y1,hr⟩ hn _ _
 try dsimp only at V y0 y1 hr hn⊢
 have hy:=V.le y y0 y1;have hp:=V.le _ hy.1 (by omega);rw[blw V y0 y1]at hr;refine⟨y0,y1,aw (fun hx=>?_) (fun hx=>?_)⟩
 ·have hne:¬l.getD y.toNat 0=y:=by simpa using hx
  rw[ds hne]at hr;have hs:=@av9 l y y (l.getD (l.getD y.toNat 0).toNat 0) y0 y1 y0;rw[d0 rfl]at hs;refine⟨y0,y1,hy.1,by omega,y0,y1,y0,by rw[a1h];exact y1,?_⟩;rw[hs];exact hn _ ⟨afp V y0 y1 hp.1 (by omega),hp.1,by dsimp only;rw[a1h];omega,hr⟩ (by dsimp only;omega)
 ·have he:l.getD y.toNat 0=y:=by simpa using hx
  rw[d0 he]at hr;exact⟨congrArg Prod.fst hr,congrArg (fun z:List Int×Int=>(z.2,())) hr⟩
theorem adv:bn Tryz.prog 129 zw:=bh9 (Φ:=lkp []) ao ba (by kernel_rfl) (fn:=Tryz.f129) (c:=qg Tryz.f129) (by kernel_rfl) (by kernel_rfl) (by kernel_rfl) jv an2 (aa7 []) (by kernel_rfl) (by kernel_rfl) (by kernel_rfl) (by decide) (by kernel_rfl) (fun x y h1 h2 h3=>Eq.mp (by kernel_rfl) (aor x y.1 h1 h2 h3))
def bpu(j:List Int)(a b:Int):List Int:=j.set (mxR a b).toNat (mnR a b)
def y5(j:List Int)(x y:Int):List Int×Bool:=(bpu (cw (cw j x).1 y).1 (cw j x).2 (cw (cw j x).1 y).2,(cw j x).2 != (cw (cw j x).1 y).2)
theorem mm_p(a b:Int):(mxR a b=a/\mnR a b=b/\b<=a)\/(mxR a b=b/\mnR a b=a/\a<=b):=by unfold mxR mnR;split <;> split <;> omega
theorem bbj{j:List Int}(U:UfP j){m n:Int}(m1:m<j.length)(n0:0<=n)(h:n<=m)(hm:j.getD m.toNat 0=m)(hn:j.getD n.toNat 0=n){y:Int}(y0:0<=y)(y1:y<j.length) :
  ez (j.set m.toNat n) y=if ez j y=m then n else ez j y:=by
 have m0:0<=m:=by omega
 have U':=afp U m0 m1 n0 h;refine bd3 (j:=j) (p:=fun y=>ez (j.set m.toNat n) y=if ez j y=m then n else ez j y) (fun y y0 y1 ih=>?_) y0 y1;rw[afe U' y0 (by rw[a1h];exact y1),av9 m0 m1 y0];by_cases e:y=m
 ·subst e;simp only[a01];rw[yc U y0 y1 hm,d0 rfl];split
  ·rename_i h1;exact h1.symm
  ·rename_i h1;rw[ih n n0 (by omega),yc U n0 (by omega) hn,ds h1]
 ·simp only[ds e];have hy:=U.le y y0 y1;split
  ·rename_i h1;rw[yc U y0 y1 h1,ds e]
  ·rename_i h1;rw[ih _ hy.1 (by omega),afe U y0 y1,ds h1]
theorem aoh{j:List Int}(U:UfP j){x y:Int}(x0:0<=x)(x1:x<j.length)(y0:0<=y)(y1:y<j.length) :
  UfP (y5 j x y).1/\(y5 j x y).1.length=j.length/\((∀z:Int,0<=z->z<j.length->ez (y5 j x y).1 z=if ez j z=ez j x then ez j y else ez j z)\/∀z:Int,0<=z->z<j.length->ez (y5 j x y).1 z=if ez j z=ez j y then ez j x else ez j z):=by
 obtain⟨a1,a2,a3,a4⟩:=ak6 U x0 x1;obtain⟨b1,b2,b3,b4⟩:=ak6 a1 y0 (by omega);have hl:(cw (cw j x).1 y).1.length=j.length:=by rw[b2,a2]
 have hr:∀z:Int,0<=z->z<j.length->ez (cw (cw j x).1 y).1 z=ez j z:=fun z z0 z1=>by rw[b4 z z0 (by omega),a4 z z0 z1]
 have hx:(cw j x).2=ez (cw (cw j x).1 y).1 x:=by rw[hr x x0 x1,a3]
 have hy:(cw (cw j x).1 y).2=ez (cw (cw j x).1 y).1 y:=by rw[hr y y0 y1,b3,a4 y y0 y1]
 have px:=baw b1 x0 (by omega);have py:=baw b1 y0 (by omega);rw[hr x x0 x1]at px;rw[hr y y0 y1]at py;unfold y5 bpu;simp only;rw[hx,hy,hr x x0 x1,hr y y0 y1];generalize (cw (cw j x).1 y).1=k at *;rcases mm_p (ez j x) (ez j y)with⟨h1,h2,h3⟩|⟨h1,h2,h3⟩
 ·rw[h1,h2];refine⟨afp b1 px.1 (by omega) py.1 h3,by rw[a1h];exact hl,.inl fun z z0 z1=>?_⟩;rw[bbj b1 (by omega) py.1 h3 px.2.2 py.2.2 z0 (by omega),hr z z0 z1]
 ·rw[h1,h2];refine⟨afp b1 py.1 (by omega) px.1 h3,by rw[a1h];exact hl,.inr fun z z0 z1=>?_⟩;rw[bbj b1 (by omega) px.1 h3 py.2.2 px.2.2 z0 (by omega),hr z z0 z1]
def jt:Wt:=⟨(.sl (.fz (.int .i64))),[(.int .i64),(.int .i64)],[false,false],fun x y=>[UfP x,0<=y.1,y.1<x.length,0<=y.2.1,y.2.1<x.length],fun x y=>(y5 x y.1 y.2.1).1,[(false,(.fz .bool))],fun x y=>((y5 x y.1 y.2.1).2,())⟩
def af8:Ct:=ax3 jt
def afw(j:List Int)(x:Int)(y:Int)(K:(List Int)->(Bool×Unit)->Prop):Prop:=((UfP j)/\((0<=x)/\((x<(j.length:Int))/\((UfP (cw j x).1)/\((0<=y)/\((y<(List.length (cw j x).1:Int))/\((0<=(mxR (cw j x).2 (cw (cw j x).1 y).2))/\(((mxR (cw j x).2 (cw (cw j x).1 y).2)<(((List.length (cw (cw j x).1 y).1):Nat):Int))/\(K (List.set (cw (cw j x).1 y).1 (Int.toNat (mxR (cw j x).2 (cw (cw j x).1 y).2)) (mnR (cw j x).2 (cw (cw j x).1 y).2)) (((cw j x).2 != (cw (cw j x).1 y).2),()))))))))))
theorem aou(j:List Int)(x:Int)(y:Int)(hok:ab (jt.o.strip.oks j))(hok2:ab (okL jt.as (x,y,())))(hpre:ab (jt.pre j (x,y,()))):afw j x y (fun z r=>z=jt.new j (x,y,())/\r=jt.res j (x,y,())):=by
 simp only[jt,O.strip,okL,T.oks,T.ok,ap,ab,a0e,a0b,a0h]at hok hok2 hpre
 try dsimp only[T.den]at hok
 try dsimp only[T.den]at hok2
 try dsimp only[T.den]at hpre
 unfold afw;obtain⟨U,x0,x1,y0,y1⟩:=hpre;clear hok;obtain⟨a1,a2,a3,a4⟩:=ak6 U x0 x1;obtain⟨b1,b2,b3,b4⟩:=ak6 a1 y0 (by omega);have px:=baw U x0 x1;have py:=baw U y0 y1;rw[←a4 y y0 y1,←b3]at py;rw[←a3]at px;have hm:=mm_p (cw j x).2 (cw (cw j x).1 y).2;exact⟨U,x0,x1,a1,y0,by omega,by omega,by omega,rfl,rfl⟩
theorem anu:bn Tryz.prog 115 af8:=bh9 (Φ:=lkp [(129,zw)]) (af adv ao) ba (by kernel_rfl) (fn:=Tryz.f115) (c:=qg Tryz.f115) (by kernel_rfl) (by kernel_rfl) (by kernel_rfl) jt .n (aa7 []) (by kernel_rfl) (by kernel_rfl) (by kernel_rfl) (by decide) (by kernel_rfl) (fun x y h1 h2 h3=>Eq.mp (by kernel_rfl) (aou x y.1 y.2.1 h1 h2 h3))
def bpz(l:List (List Int)):Prop:=l.length<=1000000/\∀r∈l,r.length<=1000000
def kbR(l:List (List Int)):List Int:=l.flatMap fun r=>r.map (fun n=>IntKind.wrap .u8 n)++[255]
theorem bsw{α β:Type}(f:α->β)(l:List α):(l.flatMap fun n=>[f n])=l.map f:=by
 induction l with
 |nil=>rfl
 |cons a l ih=>simp only[List.flatMap_cons,a05,ih];rfl
def z8(l:List (List Int)):ByteArray:=aii (kbR l)
def aaq:Ct:=⟨[(.sl (.sl (.int .i64)))],[false],fun x=>[bpz x.1],[(false,(.fz .str))],fun x=>(z8 x.1,()),false,none⟩
def beo:Ann:=(.s .n (.s .n (.s (.s .n (.l [(3,(.ref 800003 [])),(11,(.d (.int .i64)))] [(800003,(.sl (.fz (.int .u8))))] [9,10] (.s .n (.s .n (.s (.s .n (.s (.s .n (.l [(3,(.ref 800003 [])),(17,(.d (.int .i64)))] [(800003,(.sl (.fz (.int .u8))))] [9,10,11,15,16] .n)) .n)) .n))))) .n)))
def am2(lists:List (List Int))(K:ByteArray×Unit->Prop):Prop:=(bc (S:=(buw×buz)) (fun s=>(fun next=>((inK .i64 s.1.2.1)->((T.ok (.sl (.int .u8)) s.2.1)->(cnd (decide (s.1.2.1<(lists.length:Int))) ((0<=s.1.2.1)/\((s.1.2.1<(lists.length:Int))/\(bc (S:=(buw×buz)) (fun s1=>(fun next1=>((inK .i64 s1.1.2.1)->((T.ok (.sl (.int .u8)) s1.2.1)->(cnd (decide (s1.1.2.1<(List.length (lists.getD s.1.2.1.toNat []):Int))) ((0<=s1.1.2.1)/\((s1.1.2.1<(List.length (lists.getD s.1.2.1.toNat []):Int))/\((ey s1.2.1.length (List.length ((IntKind.wrap .u8 (List.getD (lists.getD s.1.2.1.toNat []) s1.1.2.1.toNat 0))::[])) 1)/\((inK .i64 (s1.1.2.1+1))/\(next1 (((),((s1.1.2.1+1),())),((s1.2.1++((IntKind.wrap .u8 (List.getD (lists.getD s.1.2.1.toNat []) s1.1.2.1.toNat 0))::[])),()))))))) ((ey s1.2.1.length (List.length (255::[])) 1)/\((inK .i64 (s.1.2.1+1))/\(next (((),((s.1.2.1+1),())),((s1.2.1++(255::[])),())))))))))) (((),(0,())),(s.2.1,()))))) (K ((aii s.2.1),()))))))) (((),(0,())),([],())))
theorem bhi(lists:List (List Int))(hok:ab (okL aaq.args (lists,())))(hpre:ab (aaq.pre (lists,()))):am2 lists (fun r=>r=aaq.res (lists,())):=by
 simp only[aaq,okL,T.oks,T.ok,ap,ab,a0e,a0b,a0h]at hok hpre
 try dsimp only[T.den]at hok hpre
 unfold am2;obtain⟨h1,h2⟩:=hpre;clear hok;refine bcx lists [] (fun r=>r.map (fun n=>IntKind.wrap .u8 n)++[255]) [] 1000001 (fun r hr=>by have:=h2 r hr;simp only[a0q,a0x,a0l,a0p];omega) ?_ ?_
 ·intro i out next i0 i1 hb hn _ _
  refine al (fun _=>?_) (fun h=>absurd i1 h);refine⟨i0,i1,?_⟩;have hl:=h2 _ (fb lists [] i0 i1);simp only[a0q,a0x,a0l,a0p,a0p]at hb
  try dsimp only at hn⊢
  generalize lists.getD i.toNat []=l at hl hb hn⊢;have hle:out.length+l.length<=4000000000000:=by omega
  refine bcx l 0 (fun n=>[IntKind.wrap .u8 n]) out 1 (fun x _=>a0f _) ?_ ?_
  ·intro j acc next1 j0 j1 hb1 hn1 _ _;simp only[a0l,a0p]at hb1;exact al (fun _=>⟨j0,j1,by simp only[ey,b9,a0l,a0p];omega,by rw[aj];dsimp only;omega,hn1⟩) (fun h=>absurd j1 h)
  ·intro next1 _ _;refine al (fun h=>absurd h (a18 _)) (fun _=>?_);rw[bsw];refine⟨by simp only[ey,b9,a0q,a0x,a0l,a0p];omega,by rw[aj];(try dsimp only);omega,?_⟩;rw[a07];exact hn
 ·intro next _ _
  exact al (fun h=>absurd h (a18 _)) (fun _=>rfl)
theorem bef:bn Tryz.prog 128 aaq:=ctb ao ba 128 Tryz.f128 aaq beo [] (by kernel_rfl) rfl (fun x K=>am2 x.1 K) (fun _ _=>by kernel_rfl) (fun x h1 h2=>bhi x.1 h1 h2)
def ow:Ct:=⟨[(.int .i64),(.sl (.int .i64))],[false,false],fun x=>[x.2.1.length<=1000000],[(false,(.fz .str))],fun x=>(z8 [[x.1],x.2.1],()),false,none⟩
def aeu(start:Int)(edges:List Int)(K:ByteArray×Unit->Prop):Prop:=((bpz ((start::[])::(edges::[])))/\(K ((z8 ((start::[])::(edges::[]))),())))
theorem axv(start:Int)(edges:List Int)(hok:ab (okL ow.args (start,edges,())))(hpre:ab (ow.pre (start,edges,()))):aeu start edges (fun r=>r=ow.res (start,edges,())):=by
 simp only[ow,okL,T.oks,T.ok,ap,ab,a0e,a0b,a0h]at hok hpre
 try dsimp only[T.den]at hok hpre
 unfold aeu;refine⟨⟨by simp,?_⟩,rfl⟩;intro r hr;simp only[a0s,a4c,or_false]at hr;rcases hr with rfl|rfl
 ·simp
 ·exact hpre
theorem za:bn Tryz.prog 111 ow:=ctb (af bef ao) ba 111 Tryz.f111 ow .n [] (by kernel_rfl) rfl (fun x K=>aeu x.1 x.2.1 K) (fun _ _=>by kernel_rfl) (fun x h1 h2=>axv x.1 x.2.1 h1 h2)
def df(k:ak)(x:Int)(es:List Int):Int:=rj .str (.int .i64) k.1 (z8 [[x],es])
def iy:Ct:=⟨[(.pt nz),(.int .i64),(.sl (.int .i64))],[false,false,false],fun x=>[x.2.2.1.length<=1000000,0<=df x.1 x.2.1 x.2.2.1,df x.1 x.2.1 x.2.2.1<x.1.2.1.length],[(false,(.fz (.int .i64)))],fun x=>(x.1.2.1.getD (df x.1 x.2.1 x.2.2.1).toNat 0,()),false,none⟩
def wl(k:ak)(start:Int)(edges:List Int)(K:Int×Unit->Prop):Prop:=((edges.length<=1000000)/\((0<=(rj T.str (.int .i64) k.1 (z8 ((start::[])::(edges::[])))))/\(((rj T.str (.int .i64) k.1 (z8 ((start::[])::(edges::[]))))<(k.2.1.length:Int))/\(K ((k.2.1.getD (Int.toNat (rj T.str (.int .i64) k.1 (z8 ((start::[])::(edges::[]))))) 0),())))))
theorem als(k:ak)(start:Int)(edges:List Int)(hok:ab (okL iy.args (k,start,edges,())))(hpre:ab (iy.pre (k,start,edges,()))):wl k start edges (fun r=>r=iy.res (k,start,edges,())):=by
 simp only[iy,okL,T.oks,T.ok,ap,ab,a0e,a0b,a0h]at hok hpre
 try dsimp only[T.den]at hok hpre
 unfold wl;exact⟨hpre.1,hpre.2.1,hpre.2.2,rfl⟩
theorem vt:bn Tryz.prog 95 iy:=ctb (af za ao) ba 95 Tryz.f95 iy .n [(1,12)] (by kernel_rfl) rfl (fun x K=>wl x.1 x.2.1 x.2.2.1 K) (fun _ _=>by kernel_rfl) (fun x h1 h2=>als x.1 x.2.1 x.2.2.1 h1 h2)
def fy:Wc:=⟨(.pt (.sl (.fz (.int .i64)))),1,[(.sl (.int .i64)),.any,(.pt (.int .i64)),(.pt (.pt nz)),(.pt aq)],[false,false,false,false,false],fun x y=>[UfP x,0<=y.2.2.1,y.2.2.1<x.length,y.1.length<=1000000,0<=df y.2.2.2.1 y.2.2.2.2.1.1 y.1,df y.2.2.2.1 y.2.2.2.2.1.1 y.1<x.length],fun x y=>(y5 x y.2.2.1 (df y.2.2.2.1 y.2.2.2.2.1.1 y.1)).1⟩
def rq:Ct:=bns fy
def ad2:FuncId->Option Ct:=lkp [(115,af8),(111,ow)]
def ww(box:(List Int))(edges:List Int)(j:Unit)(i:Int)(k:ak)(p:ae)(K:(List Int)->Prop):Prop:=((edges.length<=1000000)/\((UfP box)/\((0<=i)/\((i<(box.length:Int))/\((0<=(rj T.str (.int .i64) k.1 (z8 ((p.1::[])::(edges::[])))))/\(((rj T.str (.int .i64) k.1 (z8 ((p.1::[])::(edges::[]))))<(box.length:Int))/\(K (y5 box i (rj T.str (.int .i64) k.1 (z8 ((p.1::[])::(edges::[]))))).1)))))))
theorem afs(box:(List Int))(edges:List Int)(j:Unit)(i:Int)(k:ak)(p:ae)(hok:ab (fy.o.strip.oks box))(hok2:ab (okL fy.as (edges,j,i,k,p,())))(hpre:ab (fy.pre box (edges,j,i,k,p,()))):ww box edges j i k p (fun z=>z=fy.new box (edges,j,i,k,p,())):=by
 simp only[fy,O.strip,okL,T.oks,T.ok,ap,ab,a0e,a0b,a0h]at hok hok2 hpre
 try dsimp only[T.den]at hok
 try dsimp only[T.den]at hok2
 try dsimp only[T.den]at hpre
 unfold ww;obtain⟨h1,h2,h3,h4,h5,h6⟩:=hpre;exact⟨h4,h1,h2,h3,h5,h6,rfl⟩
theorem qp:bn Tryz.prog 114 rq:=bpg (Φ:=ad2) (af anu (af za ao)) ba (by kernel_rfl) (fn:=Tryz.f114) (c:=qg Tryz.f114) (by kernel_rfl) (by kernel_rfl) (by kernel_rfl) fy .n (aa7 [(0,11)]) (by kernel_rfl) (by kernel_rfl) (by kernel_rfl) (by kernel_rfl) (by kernel_rfl) (by decide) (by kernel_rfl) (fun x y h1 h2 h3=>Eq.mp (by kernel_rfl) (afs x y.1 y.2.1 y.2.2.1 y.2.2.2.1 y.2.2.2.2.1 h1 h2 h3))
def ah6(s:ac)(p:ae)(i:Int):Int:=if i=0 then p.1 else s.2.2.1.getD (p.2.getD (i-1).toNat 0).toNat 0
def ab6(s:ac)(p l:ae)(i:Int):Bool:=(ah6 s p i==l.1&&decide (i+l.2.length<=p.2.length))&&eqR (.sl (.int .i64)) ((p.2.take (i+l.2.length).toNat).drop i.toNat) l.2
def ro(p l r:ae)(i:Int):List Int:=p.2.take i.toNat++r.2++p.2.drop (i+l.2.length).toNat
def uc(s:ac)(p l r:ae)(i:Int)(k:ak)(p2:ae):Nat->List Int->List Int
 |0,j=>j
 |n+1,j=>if ab6 s p l n=true/\(ro p l r n).length<=6 then (y5 (uc s p l r i k p2 n j) i (df k p2.1 (ro p l r n))).1 else uc s p l r i k p2 n j
structure VisP (s:ac) (p l r:ae) (i:Int) (k:ak) (p2:ae) (j:List Int):Prop where
 U:UfP j
 i0:0<=i
 i1:i<j.length
 lp:p.2.length<=1000000
 ll:l.2.length<=1000000
 lr:r.2.length<=1000000
 wp:bj p.2 s.2.2.1.length=true
 at_:∀n:Int,0<=n->n<=p.2.length->ab6 s p l n=true->(ro p l r n).length<=6->0<=df k p2.1 (ro p l r n)/\df k p2.1 (ro p l r n)<j.length
theorem bl1{s:ac}{p l r:ae}{i:Int}{k:ak}{p2:ae}{j:List Int}(V:VisP s p l r i k p2 j):∀n:Nat,n<=p.2.length+1->UfP (uc s p l r i k p2 n j)/\(uc s p l r i k p2 n j).length=j.length
 |0,_=>⟨V.U,rfl⟩
 |n+1,h=>by
  obtain⟨a,b⟩:=bl1 V n (by omega);simp only[uc];split
  ·rename_i hc;obtain⟨q1,q2⟩:=V.at_ n (by omega) (by omega) hc.1 hc.2;obtain⟨u1,u2,_⟩:=aoh a V.i0 (by rw[b];exact V.i1) q1 (by rw[b];exact q2);exact⟨u1,u2.trans b⟩
  ·exact⟨a,b⟩
def jh:Wc:=⟨(.pt (.sl (.fz (.int .i64)))),4,[(.pt SchemaT),aq,aq,aq,(.fn 114 (.p .any (.p (.pt (.int .i64)) (.p (.pt (.pt nz)) (.p (.pt aq) .u)))))],[false,true,true,true,false],fun x y=>[VisP y.1 y.2.1 y.2.2.1 y.2.2.2.1 y.2.2.2.2.1.2.1 y.2.2.2.2.1.2.2.1 y.2.2.2.2.1.2.2.2.1 x],fun x y=>uc y.1 y.2.1 y.2.2.1 y.2.2.2.1 y.2.2.2.2.1.2.1 y.2.2.2.2.1.2.2.1 y.2.2.2.2.1.2.2.2.1 (y.2.1.2.length+1) x⟩
def abi:Ct:=bns jh
def ajm:Ann:=(.s .n (.s .n (.s .n (.l [(4,(.fc 114 (.pr (.ad 1000000 [.de]) (.pr (.d (.pt (.int .i64))) (.pr (.d (.pt (.pt (.p (.mp .str (.int .i64)) (.p (.sl (.int .i64)) (.sl (.p (.int .i64) (.sl (.int .i64))))))))) (.pr (.d (.pt (.p (.int .i64) (.sl (.int .i64))))) .u)))))),(10,(.d (.int .i64))),(11,(.d (.int .i64)))] [(1000000,(.pt (.sl (.fz (.int .i64)))))] [0,6,7,8] (.s .n (.s (.s .n (.s (.s .n (.j [(4,(.fc 114 (.pr (.ad 1000000 [.de]) (.pr (.d (.pt (.int .i64))) (.pr (.d (.pt (.pt (.p (.mp .str (.int .i64)) (.p (.sl (.int .i64)) (.sl (.p (.int .i64) (.sl (.int .i64))))))))) (.pr (.d (.pt (.p (.int .i64) (.sl (.int .i64))))) .u))))))] [(1000000,(.pt (.sl (.fz (.int .i64)))))] [0,6,7,8,10,11] (.s (.s .n (.s .n (.j [(4,(.fc 114 (.pr (.ad 1000000 [.de]) (.pr (.d (.pt (.int .i64))) (.pr (.d (.pt (.pt (.p (.mp .str (.int .i64)) (.p (.sl (.int .i64)) (.sl (.p (.int .i64) (.sl (.int .i64))))))))) (.pr (.d (.pt (.p (.int .i64) (.sl (.int .i64))))) .u))))))] [(1000000,(.pt (.sl (.fz (.int .i64)))))] [0,6,7,8,10,11] .n))) .n))) (.s .n (.j [(4,(.fc 114 (.pr (.ad 1000000 [.de]) (.pr (.d (.pt (.int .i64))) (.pr (.d (.pt (.pt (.p (.mp .str (.int .i64)) (.p (.sl (.int .i64)) (.sl (.p (.int .i64) (.sl (.int .i64))))))))) (.pr (.d (.pt (.p (.int .i64) (.sl (.int .i64))))) .u)))))),(10,(.d (.int .i64)))] [(1000000,(.pt (.sl (.fz (.int .i64)))))] [0,6,7,8,11] .n)))) .n))))))
def ajb:FuncId->Option Ct:=lkp [(77,n7),(86,tx),(114,rq)]
def abf(box:(List Int))(s:ac)(p:ae)(left:ae)(right:ae)(visit:Unit×(Int×(ak×(ae×Unit))))(K:(List Int)->Prop):Prop:=(bc (S:=(((Unit×(Int×(((List (ByteArray×Int))×bu0)×(buv×Unit))))×bvh)×buz)) (fun s1=>(fun next=>((inK .i64 s1.1.1.2.1)->((T.ok (T.mp T.str (.int .i64)) s1.1.1.2.2.1.1)->((T.ok (.sl (.int .i64)) s1.1.1.2.2.1.2.1)->((T.ok (.sl aq) s1.1.1.2.2.1.2.2)->((inK .i64 s1.1.1.2.2.2.1.1)->((T.ok (.sl (.int .i64)) s1.1.1.2.2.2.1.2)->((inK .i64 s1.1.2.1)->((inK .i64 s1.1.2.2.1)->((T.ok (.sl (.int .i64)) s1.2.1)->(cnd (decide (s1.1.2.2.1<=(p.2.length:Int))) ((inK .i64 (s1.1.2.2.1+(left.2.length:Int)))/\(((((s1.1.2.1==left.1)&&(decide ((s1.1.2.2.1+(left.2.length:Int))<=(p.2.length:Int))))=true)->((s1.1.2.2.1<=(s1.1.2.2.1+(left.2.length:Int)))/\(((s1.1.2.2.1+(left.2.length:Int))<=(p.2.length:Int))/\(0<=s1.1.2.2.1))))/\(jd (S:=(((Unit×(Int×(((List (ByteArray×Int))×bu0)×(buv×Unit))))×Unit)×buz)) (fun s2=>((inK .i64 s2.1.1.2.1)->((T.ok (T.mp T.str (.int .i64)) s2.1.1.2.2.1.1)->((T.ok (.sl (.int .i64)) s2.1.1.2.2.1.2.1)->((T.ok (.sl aq) s2.1.1.2.2.1.2.2)->((inK .i64 s2.1.1.2.2.2.1.1)->((T.ok (.sl (.int .i64)) s2.1.1.2.2.2.1.2)->((T.ok (.sl (.int .i64)) s2.2.1)->(jd (S:=(((Unit×(Int×(((List (ByteArray×Int))×bu0)×(buv×Unit))))×(Int×Unit))×buz)) (fun s3=>((inK .i64 s3.1.1.2.1)->((T.ok (T.mp T.str (.int .i64)) s3.1.1.2.2.1.1)->((T.ok (.sl (.int .i64)) s3.1.1.2.2.1.2.1)->((T.ok (.sl aq) s3.1.1.2.2.1.2.2)->((inK .i64 s3.1.1.2.2.2.1.1)->((T.ok (.sl (.int .i64)) s3.1.1.2.2.2.1.2)->((inK .i64 s3.1.2.1)->((T.ok (.sl (.int .i64)) s3.2.1)->((inK .i64 (s1.1.2.2.1+1))/\(next ((((),(s3.1.1.2.1,(s3.1.1.2.2.1,(s3.1.1.2.2.2.1,())))),(s3.1.2.1,((s1.1.2.2.1+1),()))),(s3.2.1,()))))))))))))) (fun k=>(cnd (decide (s1.1.2.2.1<(p.2.length:Int))) ((0<=s1.1.2.2.1)/\((s1.1.2.2.1<(p.2.length:Int))/\((0<=(p.2.getD s1.1.2.2.1.toNat 0))/\(((p.2.getD s1.1.2.2.1.toNat 0)<(s.2.2.1.length:Int))/\(k ((((),(s2.1.1.2.1,(s2.1.1.2.2.1,(s2.1.1.2.2.2.1,())))),((s.2.2.1.getD (Int.toNat (p.2.getD s1.1.2.2.1.toNat 0)) 0),())),(s2.2.1,()))))))) (k ((((),(s2.1.1.2.1,(s2.1.1.2.2.1,(s2.1.1.2.2.2.1,())))),(s1.1.2.1,())),(s2.2.1,())))))))))))))) (fun k=>(cnd (((s1.1.2.1==left.1)&&(decide ((s1.1.2.2.1+(left.2.length:Int))<=(p.2.length:Int))))&&(eqR (.sl (.int .i64)) (List.drop s1.1.2.2.1.toNat (List.take (Int.toNat (s1.1.2.2.1+(left.2.length:Int))) p.2)) left.2)) ((0<=s1.1.2.2.1)/\((s1.1.2.2.1<=(p.2.length:Int))/\(((List.length (List.take s1.1.2.2.1.toNat p.2))<=1099511627776)/\((0<=(s1.1.2.2.1+(left.2.length:Int)))/\(((s1.1.2.2.1+(left.2.length:Int))<=(p.2.length:Int))/\((ey (List.length (List.take s1.1.2.2.1.toNat p.2)) right.2.length 8)/\((ey (List.length ((List.take s1.1.2.2.1.toNat p.2)++right.2)) (List.length (List.drop (Int.toNat (s1.1.2.2.1+(left.2.length:Int))) p.2)) 8)/\(jd (S:=(((Unit×(Int×(((List (ByteArray×Int))×bu0)×(buv×Unit))))×Unit)×buz)) (fun s2=>((inK .i64 s2.1.1.2.1)->((T.ok (T.mp T.str (.int .i64)) s2.1.1.2.2.1.1)->((T.ok (.sl (.int .i64)) s2.1.1.2.2.1.2.1)->((T.ok (.sl aq) s2.1.1.2.2.1.2.2)->((inK .i64 s2.1.1.2.2.2.1.1)->((T.ok (.sl (.int .i64)) s2.1.1.2.2.2.1.2)->((T.ok (.sl (.int .i64)) s2.2.1)->(k ((((),(s2.1.1.2.1,(s2.1.1.2.2.1,(s2.1.1.2.2.2.1,())))),()),(s2.2.1,()))))))))))) (fun k1=>(cnd (decide ((((List.length (((List.take s1.1.2.2.1.toNat p.2)++right.2)++(List.drop (Int.toNat (s1.1.2.2.1+(left.2.length:Int))) p.2))):Nat):Int)<=6)) ((UfP s1.2.1)/\((0<=s1.1.1.2.1)/\((s1.1.1.2.1<(s1.2.1.length:Int))/\(((List.length (((List.take s1.1.2.2.1.toNat p.2)++right.2)++(List.drop (Int.toNat (s1.1.2.2.1+(left.2.length:Int))) p.2)))<=1000000)/\((0<=(df s1.1.1.2.2.1 s1.1.1.2.2.2.1.1 (((List.take s1.1.2.2.1.toNat p.2)++right.2)++(List.drop (Int.toNat (s1.1.2.2.1+(left.2.length:Int))) p.2))))/\(((df s1.1.1.2.2.1 s1.1.1.2.2.2.1.1 (((List.take s1.1.2.2.1.toNat p.2)++right.2)++(List.drop (Int.toNat (s1.1.2.2.1+(left.2.length:Int))) p.2)))<(s1.2.1.length:Int))/\(k1 ((((),(s1.1.1.2.1,(s1.1.1.2.2.1,(s1.1.1.2.2.2.1,())))),()),((y5 s1.2.1 s1.1.1.2.1 (df s1.1.1.2.2.1 s1.1.1.2.2.2.1.1 (((List.take s1.1.2.2.1.toNat p.2)++right.2)++(List.drop (Int.toNat (s1.1.2.2.1+(left.2.length:Int))) p.2)))).1,()))))))))) (k1 ((((),(s1.1.1.2.1,(s1.1.1.2.2.1,(s1.1.1.2.2.2.1,())))),()),(s1.2.1,()))))))))))))) (k ((((),(s1.1.1.2.1,(s1.1.1.2.2.1,(s1.1.1.2.2.2.1,())))),()),(s1.2.1,())))))))) (K s1.2.1))))))))))))) ((((),(visit.2.1,(visit.2.2.1,(visit.2.2.2.1,())))),(p.1,(0,()))),(box,())))
theorem aks(box:(List Int))(s:ac)(p:ae)(left:ae)(right:ae)(visit:Unit×(Int×(ak×(ae×Unit))))(hok:ab (jh.o.strip.oks box))(hok2:ab (okL jh.as (s,p,left,right,visit,())))(hpre:ab (jh.pre box (s,p,left,right,visit,()))):abf box s p left right visit (fun z=>z=jh.new box (s,p,left,right,visit,())):=by
 simp only[jh,O.strip,okL,T.oks,T.ok,ap,ab,a0e,a0b,a0h]at hok hok2 hpre
 try dsimp only[T.den]at hok
 try dsimp only[T.den]at hok2
 try dsimp only[T.den]at hpre
 unfold abf;have V:=hpre;clear hpre hok hok2;have lp:=V.lp;have ll:=V.ll;have lr:=V.lr;refine bz (fun (q:(((Unit×(Int×(((List (ByteArray×Int))×bu0)×(buv×Unit))))×bvh)×buz))=>q.1.1.2.1=visit.2.1/\q.1.1.2.2.1=visit.2.2.1/\q.1.1.2.2.2.1=visit.2.2.2.1/\(q.1.2.2.1<=p.2.length->q.1.2.1=ah6 s p q.1.2.2.1)/\0<=q.1.2.2.1/\q.1.2.2.1<=p.2.length+1/\q.2.1=uc s p left right visit.2.1 visit.2.2.1 visit.2.2.2.1 q.1.2.2.1.toNat box) (fun (q:(((Unit×(Int×(((List (ByteArray×Int))×bu0)×(buv×Unit))))×bvh)×buz))=>(p.2.length+1-q.1.2.2.1).toNat) ?_ ⟨rfl,rfl,rfl,fun _=>rfl,a0r _,by dsimp only;omega,rfl⟩;rintro⟨⟨⟨_,vi,vk,vp,_⟩,nd,n,_⟩,J,_⟩ next ⟨e1,e2,e3,hnd,a0,a1,eJ⟩ hnx
 intros
 try dsimp only at e1 e2 e3 hnd a0 a1 eJ hnx⊢
 subst e1;subst e2;subst e3;subst eJ;obtain⟨U,lJ⟩:=bl1 V n.toNat (by omega);refine al (fun hle=>?_) (fun hgt=>?_)
 ·have hnd:=hnd hle;subst hnd;have hs:uc s p left right visit.2.1 visit.2.2.1 visit.2.2.2.1 (n+1).toNat box=if ab6 s p left n=true/\(ro p left right n).length<=6 then (y5 (uc s p left right visit.2.1 visit.2.2.1 visit.2.2.2.1 n.toNat box) visit.2.1 (df visit.2.2.1 visit.2.2.2.1.1 (ro p left right n))).1 else uc s p left right visit.2.1 visit.2.2.1 visit.2.2.2.1 n.toNat box:=by rw[show (n+1).toNat=n.toNat+1 from by omega];simp only[uc];rw[a13 a0]
  refine⟨by rw[aj];(try dsimp only);omega,fun h=>?_,g7 (fun (q:(((Unit×(Int×(((List (ByteArray×Int))×bu0)×(buv×Unit))))×Unit)×buz))=>q.1.1.2.1=visit.2.1/\q.1.1.2.2.1=visit.2.2.1/\q.1.1.2.2.2.1=visit.2.2.2.1/\q.2.1=uc s p left right visit.2.1 visit.2.2.1 visit.2.2.2.1 (n+1).toNat box) ?_ ?_⟩
  ·rw[a0a,a06]at h;exact⟨by omega,h.2,a0⟩
  ·rintro⟨⟨⟨_,vi,vk,vp,_⟩,_⟩,J,_⟩ ⟨e1,e2,e3,eJ⟩;intros
   try dsimp only at e1 e2 e3 eJ⊢
   subst e1;subst e2;subst e3;subst eJ;refine g7 (fun (q:(((Unit×(Int×(((List (ByteArray×Int))×bu0)×(buv×Unit))))×(Int×Unit))×buz))=>q.1.1.2.1=visit.2.1/\q.1.1.2.2.1=visit.2.2.1/\q.1.1.2.2.2.1=visit.2.2.2.1/\(n+1<=p.2.length->q.1.2.1=ah6 s p (n+1))/\q.2.1=uc s p left right visit.2.1 visit.2.2.1 visit.2.2.2.1 (n+1).toNat box) ?_ ?_
   ·rintro⟨⟨⟨_,vi,vk,vp,_⟩,nd,_⟩,J,_⟩ ⟨e1,e2,e3,e4,eJ⟩;intros
    try dsimp only at e1 e2 e3 e4 eJ⊢
    exact⟨by rw[aj];(try dsimp only);omega,hnx _ ⟨e1,e2,e3,e4,by dsimp only;omega,by dsimp only;omega,eJ⟩ (by dsimp only;omega)⟩
   ·intro k3 hk3;refine al (fun hlt=>?_) (fun h=>hk3 _ ⟨rfl,rfl,rfl,fun h'=>absurd h' (by omega),rfl⟩);obtain⟨w0,w1⟩:=iv.1 V.wp n a0 hlt;refine⟨a0,hlt,w0,w1,hk3 _ ⟨rfl,rfl,rfl,fun _=>?_,rfl⟩⟩;unfold ah6;rw[ds (by omega),show n+1-1=n from by omega]
  ·intro kk hk;refine aw (fun hb=>?_) (fun hb=>?_)
   ·have hb0:=hb;rw[a0a,a0a,a06]at hb;have hl1:(p.2.take n.toNat).length<=1000000:=by rw[a1d];omega
    refine⟨a0,hle,by omega,by omega,hb.1.2,c7 (by omega),c7 (by rw[a0q,a1n];omega),g7 (fun (q:(((Unit×(Int×(((List (ByteArray×Int))×bu0)×(buv×Unit))))×Unit)×buz))=>q.1.1.2.1=visit.2.1/\q.1.1.2.2.1=visit.2.2.1/\q.1.1.2.2.2.1=visit.2.2.2.1/\q.2.1=uc s p left right visit.2.1 visit.2.2.1 visit.2.2.2.1 (n+1).toNat box) ?_ ?_⟩
    ·rintro⟨⟨⟨_,vi,vk,vp,_⟩,_⟩,J,_⟩ ⟨e1,e2,e3,eJ⟩;intros
     try dsimp only at e1 e2 e3 eJ⊢
     exact hk _ ⟨e1,e2,e3,eJ⟩
    ·intro k4 hk4;refine al (fun h6=>?_) (fun h6=>?_)
     ·have h6':(ro p left right n).length<=6:=Int.ofNat_le.1 h6;obtain⟨q1,q2⟩:=V.at_ n a0 hle hb0 h6';rw[d0 ⟨hb0,h6'⟩]at hs;exact⟨U,V.i0,by rw[lJ];exact V.i1,a08 h6' (by decide),q1,by rw[lJ];exact q2,hk4 _ ⟨rfl,rfl,rfl,hs.symm⟩⟩
     ·have h6':¬(ro p left right n).length<=6:=fun h=>h6 (Int.ofNat_le.2 h);rw[ds (fun h=>h6' h.2)]at hs;exact hk4 _ ⟨rfl,rfl,rfl,hs.symm⟩
   ·have hb':¬ab6 s p left n=true:=fun h=>by unfold ab6 at h;rw[hb]at h;cases h
    rw[ds (fun h=>hb' h.1)]at hs;exact hk _ ⟨rfl,rfl,rfl,hs.symm⟩
 ·have en:n=p.2.length+1:=by omega
  subst en;show uc _ _ _ _ _ _ _ _ _=uc _ _ _ _ _ _ _ _ _;rfl
theorem aaw:bn Tryz.prog 113 abi:=bpg (Φ:=ajb) (af sj (af apb (af qp ao))) ba (by kernel_rfl) (fn:=Tryz.f113) (c:=qg Tryz.f113) (by kernel_rfl) (by kernel_rfl) (by kernel_rfl) jh ajm (aa7 [(6,19),(7,2011),(11,9)]) (by kernel_rfl) (by kernel_rfl) (by kernel_rfl) (by kernel_rfl) (by kernel_rfl) (by decide) (by kernel_rfl) (fun x y h1 h2 h3=>Eq.mp (by kernel_rfl) (aks x y.1 y.2.1 y.2.2.1 y.2.2.2.1 y.2.2.2.2.1 h1 h2 h3))
def mr:Ct:=⟨[(.sl (.int .i64))],[false],fun x=>[x.1.length<=1099511627776],[(false,(.sl (.fz (.int .i64))))],fun x=>(x.1,()),false,none⟩
def agq(list:List Int)(K:(List Int)×Unit->Prop):Prop:=((ey 0 list.length 8)/\(K (list,())))
theorem bag(list:List Int)(hok:ab (okL mr.args (list,())))(hpre:ab (mr.pre (list,()))):agq list (fun r=>r=mr.res (list,())):=by
 simp only[mr,okL,T.oks,T.ok,ap,ab,a0e,a0b,a0h]at hok hpre
 try dsimp only[T.den]at hok hpre
 unfold agq;have hl:list.length<=1099511627776:=hpre;exact⟨c7 (by omega),rfl⟩
theorem aam:bn Tryz.prog 58 mr:=ctb ao ba 58 Tryz.f58 mr .n [] (by kernel_rfl) rfl (fun x K=>agq x.1 K) (fun _ _=>by kernel_rfl) (fun x h1 h2=>bag x.1 h1 h2)
def ib(s:ac)(p:ae):Int:=if p.2.length=0 then p.1 else s.2.2.1.getD (p.2.getD (p.2.length-1) 0).toNat 0
def ky:Ct:=⟨[SchemaT,aq],[true,true],fun x=>[bj x.2.1.2 x.1.2.2.1.length=true],[(false,(.fz (.int .i64)))],fun x=>(ib x.1 x.2.1,()),false,none⟩
def agv(s:ac)(p:ae)(K:Int×Unit->Prop):Prop:=(cnd ((p.2.length:Int)==0) (K (p.1,())) ((inK .i64 ((p.2.length:Int)-1))/\((0<=((p.2.length:Int)-1))/\((((p.2.length:Int)-1)<(p.2.length:Int))/\((0<=(p.2.getD (Int.toNat ((p.2.length:Int)-1)) 0))/\(((p.2.getD (Int.toNat ((p.2.length:Int)-1)) 0)<(s.2.2.1.length:Int))/\(K ((s.2.2.1.getD (Int.toNat (p.2.getD (Int.toNat ((p.2.length:Int)-1)) 0)) 0),()))))))))
theorem az9(s:ac)(p:ae)(hok:ab (okL ky.args (s,p,())))(hpre:ab (ky.pre (s,p,()))):agv s p (fun r=>r=ky.res (s,p,())):=by
 simp only[ky,okL,T.oks,T.ok,ap,ab,a0e,a0b,a0h]at hok hpre
 try dsimp only[T.den]at hok hpre
 unfold agv;simp only[ky,ib];refine aw (fun hc=>?_) (fun hc=>?_)
 ·grind[cnd,b9,aj]
 ·simp at hc;have hl:0<p.2.length:=by grind[cnd,b9,aj]
  have hi:((p.2.length:Int)-1).toNat=p.2.length-1:=by omega
  have hm:p.2.getD (p.2.length-1) 0∈p.2:=by rw[←hi];exact fb p.2 0 (by omega) (by omega)
  have:=a1l.1 hpre _ hm;rw[hi]
  grind[cnd,b9,aj,inR]
theorem aas:bn Tryz.prog 66 ky:=ctb ao ba 66 Tryz.f66 ky .n [(3,13)] (by kernel_rfl) rfl (fun x K=>agv x.1 x.2.1 K) (fun _ _=>by kernel_rfl) (fun x h1 h2=>az9 x.1 x.2.1 h1 h2)
def wd:List Int->List Int->Bool
 |_,[]=>false
 |[],_::_=>true
 |x::a,y::b=>if x=y then wd a b else decide (x<y)
def mz:Ct:=⟨[(.sl (.int .i64)),(.sl (.int .i64))],[false,false],fun x=>[],[(false,(.fz .bool))],fun x=>(wd x.1 x.2.1,()),false,none⟩
def aum:Ann:=(.s .n (.s (.s .n (.l [(5,(.d (.int .i64)))] [] [0,1] .n)) .n))
def ad8(a:List Int)(b:List Int)(K:Bool×Unit->Prop):Prop:=(bc (S:=bux) (fun s=>(fun next=>((inK .i64 s.1.1)->(cnd ((decide (s.1.1<(a.length:Int)))&&(decide (s.1.1<(b.length:Int)))) ((0<=s.1.1)/\((s.1.1<(a.length:Int))/\((0<=s.1.1)/\((s.1.1<(b.length:Int))/\(cnd ((a.getD s.1.1.toNat 0) != (b.getD s.1.1.toNat 0)) ((0<=s.1.1)/\((s.1.1<(a.length:Int))/\((0<=s.1.1)/\((s.1.1<(b.length:Int))/\(K ((decide ((a.getD s.1.1.toNat 0)<(b.getD s.1.1.toNat 0))),())))))) ((inK .i64 (s.1.1+1))/\(next (((s.1.1+1),()),())))))))) (K ((decide ((a.length:Int)<(b.length:Int))),())))))) ((0,()),()))
theorem axw(a:List Int)(b:List Int)(hok:ab (okL mz.args (a,b,())))(hpre:ab (mz.pre (a,b,()))):ad8 a b (fun r=>r=mz.res (a,b,())):=by
 simp only[mz,okL,T.oks,T.ok,ap,ab,a0e,a0b,a0h]at hok hpre
 try dsimp only[T.den]at hok hpre
 unfold ad8;have h1:a.length<=140737488355328:=by simp only[b9]at hok;omega
 clear hok hpre;refine bz (fun (s:bux)=>0<=s.1.1/\s.1.1<=a.length/\s.1.1<=b.length/\wd a b=wd (a.drop s.1.1.toNat) (b.drop s.1.1.toNat)) (fun (s:bux)=>(a.length-s.1.1).toNat) ?_ ⟨by simp,by simp,by simp,by simp⟩;rintro⟨⟨i,_⟩,_⟩ next ⟨h0,h2,h3,h4⟩ hn _
 try dsimp only at h0 h2 h3 h4 hn⊢
 refine aw (fun hc=>?_) (fun hc=>?_)
 ·simp only[a0a,a06]at hc;rw[mn a 0 h0 hc.1,mn b 0 h0 hc.2,wd]at h4;refine⟨h0,hc.1,h0,hc.2,aw (fun hd=>⟨h0,hc.1,h0,hc.2,?_⟩) (fun hd=>⟨by rw[aj];(try dsimp only);omega,?_⟩)⟩
  ·rw[ds (by simpa using hd)]at h4;simp only[mz,h4]
  ·rw[d0 (by simpa using hd)]at h4;exact hn _ ⟨by dsimp only;omega,by dsimp only;omega,by dsimp only;omega,h4⟩ (by dsimp only;omega)
 ·simp only[Bool.and_eq_false_iff,a2q]at hc;simp only[mz,h4];by_cases hb:i<b.length
  ·have ha:¬i<a.length:=by rcases hc with h|h <;> omega
   rw[pc a (by omega),mn b 0 h0 hb,wd,a3h (by omega:(a.length:Int)<b.length)]
  ·rw[pc b (by omega),decide_eq_false (by omega:¬(a.length:Int)<b.length)];cases a.drop i.toNat <;> rfl
theorem awd:bn Tryz.prog 107 mz:=ctb ao ba 107 Tryz.f107 mz aum [(4,8),(5,8)] (by kernel_rfl) rfl (fun x K=>ad8 x.1 x.2.1 K) (fun _ _=>by kernel_rfl) (fun x h1 h2=>axw x.1 x.2.1 h1 h2)
def vy(s:ac)(p q:ae):Bool:=wd (p.1::ib s p::(p.2.length:Int)::p.2) (q.1::ib s q::(q.2.length:Int)::q.2)
def ql:Ct:=⟨[SchemaT,aq,aq],[true,true,true],fun x=>[bj x.2.1.2 x.1.2.2.1.length=true,bj x.2.2.1.2 x.1.2.2.1.length=true,x.2.1.2.length<=1000000,x.2.2.1.2.length<=1000000],[(false,(.fz .bool))],fun x=>(vy x.1 x.2.1 x.2.2.1,()),false,none⟩
def bo3:FuncId->Option Ct:=lkp [(107,mz),(66,ky)]
def ae4(s:ac)(p:ae)(q:ae)(K:Bool×Unit->Prop):Prop:=(((bj p.2 (s.2.2.1.length:Int))=true)/\((ey (List.length (p.1::((ib s p)::((p.2.length:Int)::[])))) p.2.length 8)/\(((bj q.2 (s.2.2.1.length:Int))=true)/\((ey (List.length (q.1::((ib s q)::((q.2.length:Int)::[])))) q.2.length 8)/\(K ((wd ((p.1::((ib s p)::((p.2.length:Int)::[])))++p.2) ((q.1::((ib s q)::((q.2.length:Int)::[])))++q.2)),()))))))
theorem axp(s:ac)(p:ae)(q:ae)(hok:ab (okL ql.args (s,p,q,())))(hpre:ab (ql.pre (s,p,q,()))):ae4 s p q (fun r=>r=ql.res (s,p,q,())):=by
 simp only[ql,okL,T.oks,T.ok,ap,ab,a0e,a0b,a0h]at hok hpre
 try dsimp only[T.den]at hok hpre
 unfold ae4;obtain⟨h1,h2,h3,h4⟩:=hpre;exact⟨h1,c7 (by simp only[a0l,a0p];omega),h2,c7 (by simp only[a0l,a0p];omega),rfl⟩
theorem av6:bn Tryz.prog 87 ql:=ctb (af awd (af aas ao)) ba 87 Tryz.f87 ql .n [(1,511),(2,511)] (by kernel_rfl) rfl (fun x K=>ae4 x.1 x.2.1 x.2.2.1 K) (fun _ _=>by kernel_rfl) (fun x h1 h2=>axp x.1 x.2.1 x.2.2.1 h1 h2)
structure PthsR (l:List ae):Prop where
 n:l.length<=1000000
 e:∀p∈l,p.2.length<=1000000
def jj(s:ac)(p:ae)(n:Nat):List ae:=((dv n fun e=>e).filter fun e=>s.2.1.getD e.toNat 0==ib s p).map fun e=>(p.1,p.2++[e])
def gm(s:ac):Nat->Nat->List ae->List ae×Bool
 |0,_,l=>(l,true)
 |u+1,k,l=>if k<l.length then (if (l.getD k (0,[])).2.length=6 then gm s u (k+1) l else if 400<(l++jj s (l.getD k (0,[])) s.2.1.length).length then ([],false)else gm s u (k+1) (l++jj s (l.getD k (0,[])) s.2.1.length))else (l,true)
def d6(n:Int):List ae:=dv n.toNat fun x=>(x,[])
def vq(lt:ae->ae->Bool)(x:ae):List ae->List ae
 |[]=>[x]
 |y::r=>if lt x y then y::vq lt x r else x::y::r
def adg(lt:ae->ae->Bool)(l:List ae):List ae:=l.foldl (fun a x=>vq lt x a) []
def yz(lt:ae->ae->Bool)(l:List ae):List ae:=(adg lt l).reverse
def cj(s:ac):List ae×Bool:=if (gm s 402 0 (d6 s.1)).2=true then (yz (vy s) (gm s 402 0 (d6 s.1)).1,true)else ([],false)
theorem bas{s:ac}{p:ae}{e:Int}(h:0<=e):jj s p (e+1).toNat=jj s p e.toNat++(if (s.2.1.getD e.toNat 0==ib s p)=true then [(p.1,p.2++[e])]else []):=by unfold jj;rw[wu h,List.filter_append,a2o];split <;> rename_i h1 <;> simp only[List.filter_cons,h1,a01,a3b,List.filter_nil,a05,a2j,a02]
theorem brh{s:ac}{p:ae}{n:Nat}:(jj s p n).length<=n:=by unfold jj;rw[a0x];exact a08 (List.length_filter_le _ _) (Nat.le_of_eq (br n))
def axe(s:ac)(p:ae):Prop:=p.2.length<=6/\bj p.2 s.2.2.1.length=true
theorem br6{s:ac}{p q:ae}(hl:s.2.2.1.length=s.2.1.length)(hp:axe s p)(h6:¬p.2.length=6){n:Nat}(hn:n<=s.2.1.length)(h:q∈jj s p n):axe s q:=by unfold jj at h;obtain⟨e,he,rfl⟩:=a2d.1 h;obtain⟨he,_⟩:=a4i.1 he;obtain⟨_,h0,h1,rfl⟩:=qy.1 he;refine⟨by have:=hp.1;rw[a0q];simp only[a0l,a0p];omega,?_⟩;have h2:=hp.2;unfold bj at h2⊢;rw[a4h,h2,hl];simp only[a3w,List.all_nil,a0k,a1u,inR,a0a,a06];omega
theorem bfy{lt:ae->ae->Bool}{x:ae}:∀l:List ae,(vq lt x l).length=l.length+1
 |[]=>rfl
 |y::r=>by unfold vq;split <;> simp only[a0l,bfy r]
theorem bsg{lt:ae->ae->Bool}{l:List ae}{i:Int}(h0:0<=i)(h1:i<l.length):adg lt (l.take (i+1).toNat)=vq lt (l.getD i.toNat (0,[])) (adg lt (l.take i.toNat)):=by unfold adg;rw[ii l (0,[]) h0 h1,a3j];rfl
theorem bed{lt:ae->ae->Bool}:∀(l a:List ae),(l.foldl (fun a x=>vq lt x a) a).length=a.length+l.length
 |[],a=>rfl
 |x::l,a=>by rw[a16,bed l,bfy,a0l];omega
theorem bbx{lt:ae->ae->Bool}(l:List ae):(adg lt l).length=l.length:=by unfold adg;rw[bed];exact a1w _
theorem aw1{lt:ae->ae->Bool}{x z:ae}:∀l:List ae,z∈vq lt x l->z=x\/z∈l
 |[],h=>.inl (a0u.1 h)
 |y::r,h=>by
  unfold vq at h;split at h
  ·rcases a0s.1 h with h|h
   ·exact .inr (h▸a3f ..)
   ·rcases aw1 r h with h|h
    ·exact .inl h
    ·exact .inr (a26 _ h)
  ·rcases a0s.1 h with h|h
   ·exact .inl h
   ·exact .inr h
theorem bb1{lt:ae->ae->Bool}{z:ae}:∀(l a:List ae),z∈l.foldl (fun a x=>vq lt x a) a->z∈a\/z∈l
 |[],a,h=>.inl h
 |x::l,a,h=>by
  rcases bb1 l _ h with h|h
  ·rcases aw1 a h with h|h
   ·exact .inr (h▸a3f ..)
   ·exact .inl h
  ·exact .inr (a26 _ h)
def akf(lt:ae->ae->Bool)(l:List ae)(i:Int):List ae:=(adg lt (l.take i.toNat)).reverse++l.drop i.toNat
theorem brd{lt:ae->ae->Bool}(l:List ae)(i:Int):(akf lt l i).length=l.length:=by unfold akf;rw[a0q,a5e,bbx,a1d,a1n];omega
theorem btp{lt:ae->ae->Bool}(l:List ae):akf lt l 1=l:=by cases l <;> rfl
theorem bt4{lt:ae->ae->Bool}{l:List ae}{i:Int}(h:(l.length:Int)<=i):akf lt l i=yz lt l:=by unfold akf yz;rw[jr l h,a4x (by omega),a2k]
theorem bfs{α:Type}{d x:α}{t:List α}:∀p:List α,(p++x::t).getD p.length d=x
 |[]=>rfl
 |_::p=>by simp
theorem bnm{α:Type}{d x y:α}{t:List α}:∀p:List α,(p++y::x::t).getD (p.length+1) d=x
 |[]=>rfl
 |_::p=>by simp
theorem boj{α:Type}{x y:α}{t:List α}:∀p:List α,((p++y::x::t).set (p.length+1) y).set p.length x=p++x::y::t
 |[]=>rfl
 |a::p=>by simp
theorem axj{α:Type}{l m:List α}{d:α}{k:Nat}(h:k<l.length):(l++m).getD k d=l.getD k d:=by rw[a0n,a0n,a1g h]
def l9:Ct:=⟨[SchemaT],[true],fun x=>[0<=x.1.1,x.1.1<=400,x.1.2.1.length<=1000000,x.1.2.2.1.length=x.1.2.1.length],[(false,(.fz (.sl aq))),(false,(.fz .bool))],fun x=>((cj x.1).1,(cj x.1).2,()),true,none⟩
def asy:Ann:=(.s .n (.j [(1,(.ad 1 [.de])),(4,(.ref 800004 []))] [(1,(.pt (.fz (.p (.int .i64) (.p (.sl (.int .i64)) (.p (.sl (.int .i64)) (.p (.sl (.p (.int .i64) (.sl (.int .i64)))) (.sl (.p (.int .i64) (.sl (.int .i64))))))))))),(800004,(.sl (.fz (.p (.int .i64) (.sl (.int .i64))))))] [] (.s .n (.s (.s .n (.l [(4,(.ref 800004 [])),(5,(.d (.int .i64)))] [(800004,(.sl (.fz (.p (.int .i64) (.sl (.int .i64))))))] [1] .n)) (.s (.s .n (.l [(4,(.ref 800004 [])),(6,(.d (.int .i64)))] [(800004,(.sl (.fz (.p (.int .i64) (.sl (.int .i64))))))] [1] (.s .n (.s (.j [(4,(.ref 800004 []))] [(800004,(.sl (.fz (.p (.int .i64) (.sl (.int .i64))))))] [1,6] (.s .n (.s (.s .n (.l [(4,(.ref 800004 [])),(7,(.d (.int .i64)))] [(800004,(.sl (.fz (.p (.int .i64) (.sl (.int .i64))))))] [1,6] (.s .n (.s (.s .n (.j [(4,(.ref 800004 []))] [(800004,(.sl (.fz (.p (.int .i64) (.sl (.int .i64))))))] [1,6,7] .n)) .n)))) .n))) .n)))) (.s (.s .n (.l [(4,(.ref 800004 [])),(8,(.d (.int .i64)))] [(800004,(.sl (.fz (.p (.int .i64) (.sl (.int .i64))))))] [1] (.s .n (.s (.s .n (.l [(4,(.ref 800004 [])),(9,(.d (.int .i64)))] [(800004,(.sl (.fz (.p (.int .i64) (.sl (.int .i64))))))] [1,8] .n)) .n)))) .n))))))
def boe:FuncId->Option Ct:=lkp [(58,mr),(66,ky),(87,ql)]
def ac7(s:ac)(K:(List ae)×Bool×Unit->Prop):Prop:=(jd (S:=bvg) (fun s1=>((inK .i64 s1.2.1.1)->((T.ok (.sl (.int .i64)) s1.2.1.2.1)->((T.ok (.sl (.int .i64)) s1.2.1.2.2.1)->((T.ok (.sl aq) s1.2.1.2.2.2.1)->((T.ok (.sl aq) s1.2.1.2.2.2.2)->((T.ok (.sl aq) s1.2.2.1)->(bc (S:=(buw×buy)) (fun s2=>(fun next=>((inK .i64 s2.1.2.1)->((T.ok (.sl aq) s2.2.1)->(cnd (decide (s2.1.2.1<s1.2.1.1)) ((ey s2.2.1.length (List.length ((s2.1.2.1,[])::([]:List buv))) 32)/\((inK .i64 (s2.1.2.1+1))/\(next (((),((s2.1.2.1+1),())),((s2.2.1++((s2.1.2.1,[])::([]:List buv))),()))))) (bc (S:=(buw×buy)) (fun s3=>(fun next1=>((inK .i64 s3.1.2.1)->((T.ok (.sl aq) s3.2.1)->(cnd (decide (s3.1.2.1<(s3.2.1.length:Int))) (jd (S:=bu5) (fun s4=>((T.ok (.sl aq) s4.2.1)->((inK .i64 (s3.1.2.1+1))/\(next1 (((),((s3.1.2.1+1),())),(s4.2.1,())))))) (fun k=>((0<=s3.1.2.1)/\((s3.1.2.1<(s3.2.1.length:Int))/\(cnd ((((List.length (s3.2.1.getD s3.1.2.1.toNat (0,[])).2):Nat):Int)==6) (k (((),()),(s3.2.1,()))) (bc (S:=(buw×buy)) (fun s4=>(fun next2=>((inK .i64 s4.1.2.1)->((T.ok (.sl aq) s4.2.1)->(cnd (decide (s4.1.2.1<(s1.2.1.2.1.length:Int))) ((0<=s4.1.2.1)/\((s4.1.2.1<(s1.2.1.2.1.length:Int))/\((0<=s3.1.2.1)/\((s3.1.2.1<(s4.2.1.length:Int))/\(((bj (s4.2.1.getD s3.1.2.1.toNat (0,[])).2 (s1.2.1.2.2.1.length:Int))=true)/\(jd (S:=bu5) (fun s5=>((T.ok (.sl aq) s5.2.1)->((inK .i64 (s4.1.2.1+1))/\(next2 (((),((s4.1.2.1+1),())),(s5.2.1,())))))) (fun k1=>(cnd ((s1.2.1.2.1.getD s4.1.2.1.toNat 0)==(ib s1.2.1 (s4.2.1.getD s3.1.2.1.toNat (0,[])))) ((0<=s3.1.2.1)/\((s3.1.2.1<(s4.2.1.length:Int))/\((0<=s3.1.2.1)/\((s3.1.2.1<(s4.2.1.length:Int))/\(((List.length (s4.2.1.getD s3.1.2.1.toNat (0,[])).2)<=1099511627776)/\((ey (List.length (s4.2.1.getD s3.1.2.1.toNat (0,[])).2) (List.length (s4.1.2.1::[])) 8)/\((ey s4.2.1.length (List.length (((s4.2.1.getD s3.1.2.1.toNat (0,[])).1,((s4.2.1.getD s3.1.2.1.toNat (0,[])).2++(s4.1.2.1::[])))::([]:List buv))) 32)/\(k1 (((),()),((s4.2.1++(((s4.2.1.getD s3.1.2.1.toNat (0,[])).1,((s4.2.1.getD s3.1.2.1.toNat (0,[])).2++(s4.1.2.1::[])))::([]:List buv))),())))))))))) (k1 (((),()),(s4.2.1,()))))))))))) (cnd (decide (400<(s4.2.1.length:Int))) (K (([]:List buv),(false,()))) (k (((),()),(s4.2.1,()))))))))) (((),(0,())),(s3.2.1,())))))))) (bc (S:=(buw×buy)) (fun s4=>(fun next2=>((inK .i64 s4.1.2.1)->((T.ok (.sl aq) s4.2.1)->(cnd (decide (s4.1.2.1<(s4.2.1.length:Int))) (bc (S:=(buw×buy)) (fun s5=>(fun next3=>((inK .i64 s5.1.2.1)->((T.ok (.sl aq) s5.2.1)->((((decide (0<s5.1.2.1))=true)->((s5.1.2.1<(s5.2.1.length:Int))/\(0<=s5.1.2.1)))/\((((decide (0<s5.1.2.1))=true)->(inK .i64 (s5.1.2.1-1)))/\((((decide (0<s5.1.2.1))=true)->(((s5.1.2.1-1)<(s5.2.1.length:Int))/\(0<=(s5.1.2.1-1))))/\((((decide (0<s5.1.2.1))=true)->(((bj (s5.2.1.getD (Int.toNat (s5.1.2.1-1)) (0,[])).2 (s1.2.1.2.2.1.length:Int))=true)/\(((List.length (s5.2.1.getD s5.1.2.1.toNat (0,[])).2)<=1000000)/\(((List.length (s5.2.1.getD (Int.toNat (s5.1.2.1-1)) (0,[])).2)<=1000000)/\((bj (s5.2.1.getD s5.1.2.1.toNat (0,[])).2 (s1.2.1.2.2.1.length:Int))=true)))))/\(cnd ((decide (0<s5.1.2.1))&&(vy s1.2.1 (s5.2.1.getD s5.1.2.1.toNat (0,[])) (s5.2.1.getD (Int.toNat (s5.1.2.1-1)) (0,[])))) ((0<=s5.1.2.1)/\((s5.1.2.1<(s5.2.1.length:Int))/\((inK .i64 (s5.1.2.1-1))/\((0<=(s5.1.2.1-1))/\(((s5.1.2.1-1)<(s5.2.1.length:Int))/\((0<=s5.1.2.1)/\((s5.1.2.1<(s5.2.1.length:Int))/\((inK .i64 (s5.1.2.1-1))/\((0<=(s5.1.2.1-1))/\(((s5.1.2.1-1)<(((List.length (List.set s5.2.1 s5.1.2.1.toNat (s5.2.1.getD (Int.toNat (s5.1.2.1-1)) (0,[])))):Nat):Int))/\((inK .i64 (s5.1.2.1-1))/\(next3 (((),((s5.1.2.1-1),())),((List.set (List.set s5.2.1 s5.1.2.1.toNat (s5.2.1.getD (Int.toNat (s5.1.2.1-1)) (0,[]))) (Int.toNat (s5.1.2.1-1)) (s5.2.1.getD s5.1.2.1.toNat (0,[]))),())))))))))))))) ((inK .i64 (s4.1.2.1+1))/\(next2 (((),((s4.1.2.1+1),())),(s5.2.1,()))))))))))))) (((),(s4.1.2.1,())),(s4.2.1,()))) (K (s4.2.1,(true,())))))))) (((),(1,())),(s3.2.1,())))))))) (((),(0,())),(s2.2.1,())))))))) (((),(0,())),(s1.2.2.1,())))))))))) (fun k=>(k (((),((),())),(s,(([]:List buv),()))))))
theorem avx(s:ac)(hok:ab (okL l9.args (s,())))(hpre:ab (l9.pre (s,()))):ac7 s (fun r=>r=l9.res (s,())):=by
 simp only[l9,okL,T.oks,T.ok,ap,ab,a0e,a0b,a0h]at hok hpre
 try dsimp only[T.den]at hok hpre
 unfold ac7;obtain⟨n0,n8,hf,ht⟩:=hpre;refine g7 (fun (q:bvg)=>q.2.1=s/\q.2.2.1=[]) ?_ (fun k hk=>hk _ ⟨rfl,rfl⟩);rintro⟨_,sc,l0,_⟩ ⟨e0,e1⟩;intros
 try dsimp only at e0 e1⊢
 subst e0;subst e1;refine bz (fun (q:(buw×buy))=>0<=q.1.2.1/\q.1.2.1<=sc.1/\q.2.1=d6 q.1.2.1) (fun (q:(buw×buy))=>(sc.1-q.1.2.1).toNat) ?_ ⟨by simp,n0,rfl⟩;rintro⟨⟨_,x,_⟩,l,_⟩ next ⟨x0,x1,q⟩ hnx
 intros
 try dsimp only at x0 x1 q hnx⊢
 subst q;have zl:(d6 x).length=x.toNat:=br _;refine al (fun hx=>?_) (fun hx=>?_)
 ·refine⟨c7 (by rw[zl];simp only[a0l,a0p];omega),by rw[aj];(try dsimp only);omega,hnx _ ⟨by dsimp only;omega,by dsimp only;omega,?_⟩ (by dsimp only;omega)⟩
  try dsimp only
  unfold d6;rw[wu x0]
 have ex:x=sc.1:=by omega
 subst ex;clear hnx;have hz0:∀p∈d6 sc.1,axe sc p:=by intro p hp;unfold d6 at hp;obtain⟨e,h0,h1,rfl⟩:=qy.1 hp;exact⟨by simp,rfl⟩
 refine bz (fun (q:(buw×buy))=>0<=q.1.2.1/\q.1.2.1<=400/\gm sc 402 0 (d6 sc.1)=gm sc (402-q.1.2.1).toNat q.1.2.1.toNat q.2.1/\(∀p∈q.2.1,axe sc p)/\q.2.1.length<=400) (fun (q:(buw×buy))=>(400-q.1.2.1).toNat) ?_ ⟨by simp,by simp,rfl,hz0,by dsimp only;omega⟩;rintro⟨⟨_,k,_⟩,L,_⟩ next ⟨k0,k41,hg,hp,hL⟩ hnx
 intros
 try dsimp only at k0 k41 hg hp hL hnx⊢
 refine al (fun hc=>?_) (fun hc=>?_)
 ·have hpk:=hp _ (fb L (0,[]) k0 hc);have hgk:gm sc 402 0 (d6 sc.1)=(if (L.getD k.toNat (0,[])).2.length=6 then gm sc (402-(k+1)).toNat (k+1).toNat L else if 400<(L++jj sc (L.getD k.toNat (0,[])) sc.2.1.length).length then ([],false)else gm sc (402-(k+1)).toNat (k+1).toNat (L++jj sc (L.getD k.toNat (0,[])) sc.2.1.length)):=by rw[hg,show (402-k).toNat=(402-(k+1)).toNat+1 from by omega,show (k+1).toNat=k.toNat+1 from by omega];rw[gm,d0 (by omega)]
  refine g7 (fun (q:bu5)=>gm sc 402 0 (d6 sc.1)=gm sc (402-(k+1)).toNat (k+1).toNat q.2.1/\(∀p∈q.2.1,axe sc p)/\q.2.1.length<=400) ?_ ?_
  ·rintro⟨_,M,_⟩ ⟨m1,m2,m3⟩;intros
   try dsimp only at m1 m2 m3⊢
   exact⟨by rw[aj];(try dsimp only);omega,hnx _ ⟨by dsimp only;omega,by dsimp only;omega,m1,m2,m3⟩ (by dsimp only;omega)⟩
  intro kk hkk;generalize hP:L.getD k.toNat (0,[])=P at *;refine⟨k0,hc,aw (fun h6=>?_) (fun h6=>?_)⟩
  ·have h6:P.2.length=6:=by have:=a1y h6;omega
   rw[d0 h6]at hgk;exact hkk _ ⟨hgk,hp,hL⟩
  have h6:¬P.2.length=6:=by have:=a2b.1 h6;omega
  rw[ds h6]at hgk;refine bz (fun (q:(buw×buy))=>0<=q.1.2.1/\q.1.2.1<=sc.2.1.length/\q.2.1=L++jj sc P q.1.2.1.toNat) (fun (q:(buw×buy))=>(sc.2.1.length-q.1.2.1).toNat) ?_ ⟨by simp,by simp,by simp[jj,dv]⟩;rintro⟨⟨_,e,_⟩,M,_⟩ next1 ⟨e0,e1,q⟩ hn1;intros
  try dsimp only at e0 e1 q hn1⊢
  subst q;have hM:(L++jj sc P e.toNat).length<=400+sc.2.1.length:=by rw[a0q];have:=@brh sc P e.toNat;omega
  have hMk:k<(L++jj sc P e.toNat).length:=by rw[a0q];omega
  have hG:(L++jj sc P e.toNat).getD k.toNat (0,[])=P:=by rw[axj (by omega),hP]
  have hE:=@bas sc P e e0;rw[hG];refine al (fun he=>?_) (fun he=>?_)
  ·refine⟨e0,he,k0,hMk,hpk.2,g7 (fun (q:bu5)=>q.2.1=L++jj sc P (e+1).toNat) ?_ ?_⟩
   ·rintro⟨_,M2,_⟩ q2;intros
    try dsimp only at q2⊢
    subst q2;exact⟨by rw[aj];(try dsimp only);omega,hn1 _ ⟨by dsimp only;omega,by dsimp only;omega,rfl⟩ (by dsimp only;omega)⟩
   ·intro k1 hk1;rw[hE]at hk1;have hp6:=hpk.1;refine aw (fun hb=>?_) (fun hb=>?_)
    ·rw[d0 hb]at hk1;exact⟨k0,hMk,k0,hMk,by omega,c7 (by simp only[a0l,a0p];omega),c7 (by simp only[a0l,a0p];omega),hk1 _ (a07 _ _ _)⟩
    ·rw[ds (by rw[hb];decide),a2k]at hk1;exact hk1 _ rfl
  ·have ee:e=sc.2.1.length:=by omega
   subst ee;rw[a0m];refine al (fun h4=>?_) (fun h4=>?_)
   ·rw[d0 (by omega)]at hgk;simp only[l9,cj];rw[hgk,ds (by decide)]
   ·rw[ds (by omega)]at hgk;refine hkk _ ⟨hgk,fun p hp'=>?_,by dsimp only;omega⟩;rcases a04.1 hp' with h|h
    ·exact hp p h
    ·exact br6 ht hpk h6 (a0f _) h
 ·have hgl:gm sc 402 0 (d6 sc.1)=(L,true):=by rw[hg,show (402-k).toNat=(401-k).toNat+1 from by omega,gm,ds (by omega)]
  clear hnx;simp only[l9,cj];rw[hgl,d0 rfl]
  try dsimp only
  generalize hlt:vy sc=lt at *;refine bz (fun (q:(buw×buy))=>1<=q.1.2.1/\q.2.1=akf lt L q.1.2.1) (fun (q:(buw×buy))=>(L.length-q.1.2.1).toNat) ?_ ⟨by simp,(btp L).symm⟩;rintro⟨⟨_,i,_⟩,A,_⟩ next1 ⟨i0,q⟩ hn1;intros
  try dsimp only at i0 q hn1⊢
  subst q;rw[brd];refine al (fun hi=>?_) (fun hi=>?_)
  ·have hs:=bsg (lt:=lt) (l:=L) (i:=i) (by omega) hi;have hd:L.drop i.toNat=L.getD i.toNat (0,[])::L.drop (i+1).toNat:=mn L (0,[]) (by omega) hi;have ha:akf lt L (i+1)=(vq lt (L.getD i.toNat (0,[])) (adg lt (L.take i.toNat))).reverse++L.drop (i+1).toNat:=by unfold akf;rw[hs]
   have hl:(adg lt (L.take i.toNat)).length=i.toNat:=by rw[bbx,a1d];omega
   have hA:akf lt L i=(adg lt (L.take i.toNat)).reverse++L.getD i.toNat (0,[])::L.drop (i+1).toNat:=by unfold akf;rw[hd]
   have hX:=hp _ (fb L (0,[]) (i:=i) (by omega) hi)
   have hRm:∀z∈adg lt (L.take i.toNat),axe sc z:=fun z hz=>by
    rcases bb1 _ _ hz with h|h
    ·cases h
    ·exact hp z (List.mem_of_mem_take h)
   rw[hA];generalize L.getD i.toNat (0,[])=X at *;generalize adg lt (L.take i.toNat)=R at *;generalize L.drop (i+1).toNat=Q at *;refine bz (fun (q:(buw×buy))=>∃R1 R2,R=R1++R2/\(R2.length:Int)=q.1.2.1/\vq lt X R=R1++vq lt X R2/\q.2.1=R2.reverse++X::(R1.reverse++Q)) (fun (q:(buw×buy))=>q.1.2.1.toNat) ?_ ⟨[],R,rfl,by dsimp only;omega,rfl,rfl⟩;rintro⟨⟨_,k,_⟩,B,_⟩ next2 ⟨R1,R2,r1,r2,r3,r4⟩ hn2;intros
   try dsimp only at r1 r2 r3 r4 hn2⊢
   subst r4
   cases R2 with
   |nil=>
    have ek:k=0:=by simpa using r2.symm
    subst ek;refine⟨fun h=>by simp at h,fun h=>by simp at h,fun h=>by simp at h,fun h=>by simp at h,aw (fun h=>by simp at h) (fun _=>⟨by rw[aj];(try dsimp only);omega,hn1 _ ⟨by dsimp only;omega,?_⟩ (by dsimp only;omega)⟩)⟩
    try dsimp only
    rw[ha,r3];simp[vq]
   |cons Y R2=>
    simp only[a0l]at r2;have hr:R1.length+(R2.length+1)=i.toNat:=by rw[←hl,r1];simp
    have hY:=hRm Y (by rw[r1];simp);have e1:(Y::R2).reverse++X::(R1.reverse++Q)=R2.reverse++Y::X::(R1.reverse++Q):=by simp
    rw[e1];have hk:k.toNat=R2.reverse.length+1:=by rw[a5e];omega
    have hk1:(k-1).toNat=R2.reverse.length:=by rw[a5e];omega
    rw[hk,hk1,bfs,bnm,boj];have hlen:((R2.reverse++Y::X::(R1.reverse++Q)).length:Int)=R2.length+2+R1.length+Q.length:=by simp;omega
    have hlen2:(((R2.reverse++Y::X::(R1.reverse++Q)).set (R2.reverse.length+1) Y).length:Int)=R2.length+2+R1.length+Q.length:=by rw[a1h];exact hlen
    have hk63:inK .i64 (k-1):=by rw[aj];(try dsimp only);omega
    have y6:=hY.1;have x6:=hX.1;refine⟨fun _=>⟨by omega,by omega⟩,fun _=>hk63,fun _=>⟨by omega,by omega⟩,fun _=>⟨hY.2,by omega,by omega,hX.2⟩,aw (fun h=>?_) (fun h=>?_)⟩
    ·simp only[a0a,a06]at h;refine⟨by omega,by omega,hk63,by omega,by omega,by omega,by omega,hk63,by omega,by omega,hk63,hn2 _ ⟨R1++[Y],R2,by simp[r1],by dsimp only;omega,?_,?_⟩ (by dsimp only;omega)⟩
     ·rw[r3];simp[vq,h.2]
     ·simp
    ·have hb:lt X Y=false:=by
      rcases Bool.and_eq_false_iff.1 h with h|h
      ·simp only[a2q]at h;omega
      ·exact h
     refine⟨by rw[aj];(try dsimp only);omega,hn1 _ ⟨by dsimp only;omega,?_⟩ (by dsimp only;omega)⟩
     try dsimp only
     rw[ha,r3];simp[vq,hb]
  ·rw[bt4 (by omega)]
theorem asw:bn Tryz.prog 67 l9:=ctb (af aam (af aas (af av6 ao))) ba 67 Tryz.f67 l9 asy [(21,13),(13,11),(14,8000055014)] (by kernel_rfl) rfl (fun x K=>ac7 x.1 K) (fun _ _=>by kernel_rfl) (fun x h1 h2=>avx x.1 h1 h2)
def mm:Ct:=⟨[(.int .i64),(.int .i64),(.int .i64)],[false,false,false],fun x=>[],[(false,(.fz .bool))],fun x=>(inR x.1 x.2.1 x.2.2.1,()),false,none⟩
def ah9(n:Int)(low:Int)(high:Int)(K:Bool×Unit->Prop):Prop:=(K (((decide (low<=n))&&(decide (n<=high))),()))
theorem bbf(n:Int)(low:Int)(high:Int)(hok:ab (okL mm.args (n,low,high,())))(hpre:ab (mm.pre (n,low,high,()))):ah9 n low high (fun r=>r=mm.res (n,low,high,())):=by
 simp only[mm,okL,T.oks,T.ok,ap,ab,a0e,a0b,a0h]at hok hpre
 try dsimp only[T.den]at hok hpre
 unfold ah9
 grind[cnd,b9,aj,mm,inR]
theorem abp:bn Tryz.prog 64 mm:=ctb ao ba 64 Tryz.f64 mm .n [] (by kernel_rfl) rfl (fun x K=>ah9 x.1 x.2.1 x.2.2.1 K) (fun _ _=>by kernel_rfl) (fun x h1 h2=>bbf x.1 x.2.1 x.2.2.1 h1 h2)
def jw:Ct:=⟨[(.int .i64),(.sl (.int .i64))],[false,false],fun x=>[],[(false,(.fz .bool))],fun x=>(bj x.2.1 x.1,()),false,none⟩
def aw3:Ann:=(.s .n (.s (.s .n (.l [(5,(.d (.int .i64)))] [] [0,1] .n)) .n))
def agc(n:Int)(f:List Int)(K:Bool×Unit->Prop):Prop:=(bc (S:=bux) (fun s=>(fun next=>((inK .i64 s.1.1)->(cnd (decide (s.1.1<(f.length:Int))) ((0<=s.1.1)/\((s.1.1<(f.length:Int))/\((((decide ((f.getD s.1.1.toNat 0)<0))=false)->((s.1.1<(f.length:Int))/\(0<=s.1.1)))/\(cnd ((decide ((f.getD s.1.1.toNat 0)<0))||(decide (n<=(f.getD s.1.1.toNat 0)))) (K (false,())) ((inK .i64 (s.1.1+1))/\(next (((s.1.1+1),()),()))))))) (K (true,())))))) ((0,()),()))
theorem az7(n:Int)(f:List Int)(hok:ab (okL jw.args (n,f,())))(hpre:ab (jw.pre (n,f,()))):agc n f (fun r=>r=jw.res (n,f,())):=by
 simp only[jw,okL,T.oks,T.ok,ap,ab,a0e,a0b,a0h]at hok hpre
 try dsimp only[T.den]at hok hpre
 unfold agc;refine bz (fun (s:bux)=>0<=s.1.1/\s.1.1<=f.length/\bj f n=bj (f.drop s.1.1.toNat) n) (fun (s:bux)=>(f.length-s.1.1).toNat) ?_ (by simp);rintro⟨⟨i,_⟩,_⟩ next ⟨h0,h1,h2⟩ hn hin
 simp only at h0 h1 h2 hn⊢;refine al (fun hc=>?_) (fun hc=>?_)
 ·rw[mn f 0 h0 hc]at h2;simp only[bj,a3w]at h2
  grind[cnd,b9,aj,jw,bj,inR]
 ·rw[pc f (by omega)]at h2
  grind[cnd,b9,aj,jw,bj]
theorem wh:bn Tryz.prog 65 jw:=ctb ao ba 65 Tryz.f65 jw aw3 [] (by kernel_rfl) rfl (fun x K=>agc x.1 x.2.1 K) (fun _ _=>by kernel_rfl) (fun x h1 h2=>az7 x.1 x.2.1 h1 h2)
def ov:Ct:=⟨[SchemaT,aq],[true,true],fun x=>[x.1.2.1.length<=x.1.2.2.1.length,inK .i64 (x.1.1-1)],[(false,(.fz .bool))],fun x=>((bm x.1 x.2.1).2,()),false,none⟩
def au1:Ann:=(.s .n (.s .n (.s .n (.s (.s .n (.l [(5,(.d (.int .i64))),(6,(.d (.int .i64)))] [] [2,3] .n)) .n))))
def bpl:FuncId->Option Ct:=lkp [(64,mm),(65,jw)]
def aef(s:ac)(p:ae)(K:Bool×Unit->Prop):Prop:=((inK .i64 (s.1-1))/\(cnd (((!(inR p.1 0 (s.1-1)))||(decide (6<(p.2.length:Int))))||(!(bj p.2 (s.2.1.length:Int)))) (K (false,())) (bc (S:=bu1) (fun s1=>(fun next=>((inK .i64 s1.1.1)->((inK .i64 s1.1.2.1)->(cnd (decide (s1.1.2.1<(p.2.length:Int))) ((0<=s1.1.2.1)/\((s1.1.2.1<(p.2.length:Int))/\((0<=(p.2.getD s1.1.2.1.toNat 0))/\(((p.2.getD s1.1.2.1.toNat 0)<(s.2.1.length:Int))/\(cnd ((s.2.1.getD (Int.toNat (p.2.getD s1.1.2.1.toNat 0)) 0) != s1.1.1) (K (false,())) ((0<=s1.1.2.1)/\((s1.1.2.1<(p.2.length:Int))/\((0<=(p.2.getD s1.1.2.1.toNat 0))/\(((p.2.getD s1.1.2.1.toNat 0)<(s.2.2.1.length:Int))/\((inK .i64 (s1.1.2.1+1))/\(next (((s.2.2.1.getD (Int.toNat (p.2.getD s1.1.2.1.toNat 0)) 0),((s1.1.2.1+1),())),())))))))))))) (K (true,()))))))) ((p.1,(0,())),()))))
theorem aye(s:ac)(p:ae)(hok:ab (okL ov.args (s,p,())))(hpre:ab (ov.pre (s,p,()))):aef s p (fun r=>r=ov.res (s,p,())):=by
 simp only[ov,okL,T.oks,T.ok,ap,ab,a0e,a0b,a0h]at hok hpre
 try dsimp only[T.den]at hok hpre
 unfold aef;simp only[ov,bm]
 have key:∀(nd:Int) (l:List Int),(bp s nd l).2=true->bj l s.2.1.length=true:=by
  intro nd l
  induction l generalizing nd with
  |nil=>intro _;rfl
  |cons e l ih=>
   simp only[bp];split
   ·rename_i h;intro hf;simp only[bj,a3w];have:=ih _ hf;simp only[bj]at this;rw[this,h.1];rfl
   ·intro h;cases h
 refine⟨hpre.2,aw (fun hc=>?_) (fun hc=>?_)⟩
 ·have:=key p.1 p.2
  grind[cnd,b9,aj]
 ·simp only[inR,a12,a1v,a0a,a06,a2q]at hc;rw[d0 ⟨by simp[inR,hc.1.1],by omega⟩];refine bz (fun (s1:bu1)=>0<=s1.1.2.1/\s1.1.2.1<=p.2.length/\bp s p.1 p.2=bp s s1.1.1 (p.2.drop s1.1.2.1.toNat)) (fun (s1:bu1)=>(p.2.length-s1.1.2.1).toNat) ?_ (by simp);rintro⟨⟨nd,i,_⟩,_⟩ next ⟨h0,h1,h2⟩ hn ha hin
  simp only at h0 h1 h2 hn⊢;refine al (fun hx=>?_) (fun hx=>?_)
  ·have hm:=a1l.1 hc.2 _ (fb p.2 0 h0 hx);rw[mn p.2 0 h0 hx]at h2;simp only[bp,hm,a0e]at h2;generalize p.2.getD i.toNat 0=e at *;simp only[inR,a0a,a06]at hm
   grind[cnd,b9,aj]
  ·rw[pc p.2 (by omega)]at h2;simp[bp,h2]
theorem avt:bn Tryz.prog 52 ov:=ctb (af abp (af wh ao)) ba 52 Tryz.f52 ov au1 [(7,11),(9,10)] (by kernel_rfl) rfl (fun x K=>aef x.1 x.2.1 K) (fun _ _=>by kernel_rfl) (fun x h1 h2=>aye x.1 x.2.1 h1 h2)
theorem akr(s:ac):∀(nd:Int) (l:List Int),(bp s nd l).2=true->(bp s nd l).1=if l.length=0 then nd else s.2.2.1.getD (l.getD (l.length-1) 0).toNat 0
 |nd,[],_=>rfl
 |nd,e::r,h=>by
  simp only[bp]at h⊢;split at h
  ·rename_i hc;rw[d0 hc];rw[akr s _ r h]
   cases r with
   |nil=>simp
   |cons e' r'=>simp
  ·cases h
theorem ans(s:ac):∀(nd:Int) (l:List Int),(bp s nd l).2=true->bj l s.2.1.length=true
 |nd,[],_=>rfl
 |nd,e::r,h=>by
  simp only[bp]at h;split at h
  ·rename_i hc;have:=ans s _ r h;simp only[bj,a3w]at this⊢;rw[this,hc.1];rfl
  ·cases h
theorem jf{s:ac}{p:ae}(h:(bm s p).2=true):ib s p=(bm s p).1/\bj p.2 s.2.1.length=true:=by
 unfold bm at h⊢;split at h
 ·rename_i hc;rw[d0 hc];exact⟨(akr s _ _ h).symm,ans s _ _ h⟩
 ·cases h
def mc:Ct:=⟨[SchemaT],[true],fun x=>[],[(false,(.fz .bool))],fun x=>(bi x.1,()),false,none⟩
def asd:Ann:=(.s .n (.s .n (.s (.s .n (.l [(3,(.d (.int .i64)))] [] [1] .n)) .n)))
def bob:FuncId->Option Ct:=lkp [(64,mm),(65,jw),(66,ky),(52,ov)]
def acq(s:ac)(K:Bool×Unit->Prop):Prop:=(cnd (((((((!(inR s.1 0 8))||(decide (8<(s.2.1.length:Int))))||((s.2.2.1.length:Int) != (s.2.1.length:Int)))||(!(bj s.2.1 s.1)))||(!(bj s.2.2.1 s.1)))||(decide (8<(s.2.2.2.1.length:Int))))||((s.2.2.2.2.length:Int) != (s.2.2.2.1.length:Int))) (K (false,())) (bc (S:=bux) (fun s1=>(fun next=>((inK .i64 s1.1.1)->(cnd (decide (s1.1.1<(s.2.2.2.1.length:Int))) ((0<=s1.1.1)/\((s1.1.1<(s.2.2.2.1.length:Int))/\((0<=s1.1.1)/\((s1.1.1<(s.2.2.2.2.length:Int))/\((s.2.1.length<=s.2.2.1.length)/\((inK .i64 (s.1-1))/\((((!(bm s (s.2.2.2.1.getD s1.1.1.toNat (0,[]))).2)=false)->((inK .i64 (s.1-1))/\(s.2.1.length<=s.2.2.1.length)))/\((((((!(bm s (s.2.2.2.1.getD s1.1.1.toNat (0,[]))).2)||(!(bm s (s.2.2.2.2.getD s1.1.1.toNat (0,[]))).2))||((s.2.2.2.1.getD s1.1.1.toNat (0,[])).1 != (s.2.2.2.2.getD s1.1.1.toNat (0,[])).1))=false)->((bj (s.2.2.2.1.getD s1.1.1.toNat (0,[])).2 (s.2.2.1.length:Int))=true))/\((((((!(bm s (s.2.2.2.1.getD s1.1.1.toNat (0,[]))).2)||(!(bm s (s.2.2.2.2.getD s1.1.1.toNat (0,[]))).2))||((s.2.2.2.1.getD s1.1.1.toNat (0,[])).1 != (s.2.2.2.2.getD s1.1.1.toNat (0,[])).1))=false)->((bj (s.2.2.2.2.getD s1.1.1.toNat (0,[])).2 (s.2.2.1.length:Int))=true))/\(cnd ((((!(bm s (s.2.2.2.1.getD s1.1.1.toNat (0,[]))).2)||(!(bm s (s.2.2.2.2.getD s1.1.1.toNat (0,[]))).2))||((s.2.2.2.1.getD s1.1.1.toNat (0,[])).1 != (s.2.2.2.2.getD s1.1.1.toNat (0,[])).1))||((ib s (s.2.2.2.1.getD s1.1.1.toNat (0,[]))) != (ib s (s.2.2.2.2.getD s1.1.1.toNat (0,[]))))) (K (false,())) ((inK .i64 (s1.1.1+1))/\(next (((s1.1.1+1),()),()))))))))))))) (K (true,())))))) ((0,()),())))
theorem awl(s:ac)(hok:ab (okL mc.args (s,())))(hpre:ab (mc.pre (s,()))):acq s (fun r=>r=mc.res (s,())):=by
 simp only[mc,okL,T.oks,T.ok,ap,ab,a0e,a0b,a0h]at hok hpre
 try dsimp only[T.den]at hok hpre
 unfold acq;refine aw (fun hc=>?_) (fun hc=>?_)
 ·grind[cnd,b9,aj,mc,bi]
 have he:bi s=w6 s s.2.2.2.1 s.2.2.2.2:=by grind[cnd,b9,aj,bi]
 simp only[mc,he];simp only[inR,a12,a1v,a0a,a06,a2q,a1a]at hc;refine bz (fun (s1:bux)=>0<=s1.1.1/\s1.1.1<=s.2.2.2.1.length/\w6 s s.2.2.2.1 s.2.2.2.2=w6 s (s.2.2.2.1.drop s1.1.1.toNat) (s.2.2.2.2.drop s1.1.1.toNat)) (fun (s1:bux)=>(s.2.2.2.1.length-s1.1.1).toNat) ?_ (by simp);rintro⟨⟨i,_⟩,_⟩ next ⟨h0,h1,h2⟩ hn hin
 simp only at h0 h1 h2 hn⊢;refine al (fun hx=>?_) (fun hx=>?_)
 ·rw[mn s.2.2.2.1 (0,[]) h0 hx,mn s.2.2.2.2 (0,[]) h0 (by omega)]at h2;simp only[w6,bhn]at h2;generalize s.2.2.2.1.getD i.toNat (0,[])=p at *;generalize s.2.2.2.2.getD i.toNat (0,[])=q at *;have ep:=@jf s p;have eq:=@jf s q;have hl:s.2.2.1.length=s.2.1.length:=by omega
  rw[hl];refine⟨by omega,by omega,by omega,by omega,by omega,by rw[aj];(try dsimp only);omega,fun _=>⟨by rw[aj];(try dsimp only);omega,by omega⟩,fun hy=>?_,fun hy=>?_,aw (fun hy=>?_) (fun hy=>?_)⟩
  ·grind[cnd,b9,aj]
  ·grind[cnd,b9,aj]
  ·grind[cnd,b9,aj]
  ·grind[cnd,b9,aj]
 ·rw[pc s.2.2.2.1 (by omega)]at h2;simp[w6,h2]
theorem asc:bn Tryz.prog 40 mc:=ctb (af abp (af wh (af aas (af avt ao)))) ba 40 Tryz.f40 mc asd [(6,2012),(7,23)] (by kernel_rfl) rfl (fun x K=>acq x.1 K) (fun _ _=>by kernel_rfl) (fun x h1 h2=>awl x.1 h1 h2)
def cp(s:ac):List ae×Bool:=gm s 402 0 (d6 s.1)
theorem ar3(s:ac)(e:Int):∀(nd:Int) (l:List Int),(bp s nd l).2=true->0<=e->e<s.2.1.length->s.2.1.getD e.toNat 0=(bp s nd l).1->(bp s nd (l++[e])).2=true
 |nd,[],_,e0,e1,h2=>by simp only[bp]at h2;simp only[a2s,bp];rw[d0 ⟨pz.2 ⟨e0,by omega⟩,h2⟩]
 |nd,x::r,h,e0,e1,h2=>by
  simp only[bp]at h h2;simp only[a2i,bp];split at h
  ·rename_i hc;rw[d0 hc]at h2⊢;exact ar3 s e _ r h e0 e1 h2
  ·cases h
theorem at2{s:ac}{p:ae}{e:Int}(h:(bm s p).2=true)(h6:¬p.2.length=6)(e0:0<=e)(e1:e<s.2.1.length)(h2:s.2.1.getD e.toNat 0=(bm s p).1):(bm s (p.1,p.2++[e])).2=true:=by
 unfold bm at h h2⊢;split at h
 ·rename_i hc;rw[d0 hc]at h2;rw[d0 ⟨hc.1,by have:=hc.2;rw[a0q];simp only[a0l,a0p];omega⟩];exact ar3 s e _ _ h e0 e1 h2
 ·cases h
theorem bbw{s:ac}{p:ae}{a:Nat}:∀{b:Nat},a<=b->(jj s p a).length<=(jj s p b).length
 |0,h=>by rw[Nat.le_zero.1 h];exact a0f _
 |b+1,h=>by
  rcases a1m b a with h1|h1
  ·rw[show a=b+1 from by omega];exact a0f _
  ·refine a08 (bbw h1) ?_;have:=@bas s p (b:Int) (Int.natCast_nonneg b);rw[show ((b:Int)+1).toNat=b+1 from by omega,a0m]at this;rw[this,a0q];omega
theorem awu{s:ac}{p q:ae}(hp:(bm s p).2=true)(h6:¬p.2.length=6){n:Nat}(hn:n<=s.2.1.length)(h:q∈jj s p n):(bm s q).2=true:=by unfold jj at h;obtain⟨e,he,rfl⟩:=a2d.1 h;obtain⟨he,hb⟩:=a4i.1 he;obtain⟨_,h0,h1,rfl⟩:=qy.1 he;exact at2 hp h6 h0 (by omega) ((a1y hb).trans (jf hp).1)
theorem aak{s:ac}{p:ae}(h:(bm s p).2=true):p.2.length<=6:=by
 unfold bm at h;split at h
 ·rename_i hc;exact hc.2
 ·cases h
theorem afy{s:ac}{x:Int}(h0:0<=x)(h1:x<s.1):(bm s (x,[])).2=true:=by unfold bm;rw[d0 ⟨pz.2 ⟨h0,by dsimp only;omega⟩,by simp⟩];rfl
def nv:Sp:=⟨[(.pt SchemaT)],[false],true,fun x=>(cp x.1).2,fun x=>[0<=x.1.1,x.1.1<=400,x.1.2.1.length<=1000000,x.1.2.2.1.length=x.1.2.1.length],[(false,(.fz (.sl aq))),(false,(.fz (.er 119)))],fun x=>((cp x.1).1,false,()),[(false,(.fz (.sl aq))),(false,(.fz (.er 119)))],fun x=>([],true,())⟩
def iz:Ct:=ti nv true
def j7:Ct:=ti nv false
def adu:Ct:=spC nv
def abk:Ann:=(.s .n (.j [(4,(.ref 800004 []))] [(800004,(.sl (.fz (.p (.int .i64) (.sl (.int .i64))))))] [0] (.s .n (.s (.s .n (.l [(4,(.ref 800004 [])),(16,(.d (.int .i64)))] [(800004,(.sl (.fz (.p (.int .i64) (.sl (.int .i64))))))] [0,15] .n)) (.s (.s .n (.l [(4,(.ref 800004 [])),(6,(.d (.int .i64)))] [(800004,(.sl (.fz (.p (.int .i64) (.sl (.int .i64))))))] [0] (.s .n (.s (.j [(4,(.ref 800004 []))] [(800004,(.sl (.fz (.p (.int .i64) (.sl (.int .i64))))))] [0,6] (.s .n (.s .n (.s .n (.l [(4,(.ref 800004 [])),(52,(.d (.int .i64)))] [(800004,(.sl (.fz (.p (.int .i64) (.sl (.int .i64))))))] [0,6,7,50,51] (.s .n (.s .n (.s (.j [(4,(.ref 800004 []))] [(800004,(.sl (.fz (.p (.int .i64) (.sl (.int .i64))))))] [0,6,7,50,51,52] .n) .n)))))))) .n)))) .n)))))
def bhh:FuncId->Option Ct:=lkp [(74,g6),(77,n7)]
def wq(s:ac)(K:je iz.rt->Prop):Prop:=(jd (S:=bu5) (fun s1=>((T.ok (T.sl aq) s1.2.1)->(bc (S:=(buw×buy)) (fun s2=>(fun next=>((inK IntKind.i64 s2.1.2.1)->((T.ok (T.sl aq) s2.2.1)->(cnd (decide (s2.1.2.1<s.1)) ((ey s2.2.1.length (List.length ((s2.1.2.1,([]:List Int))::([]:List buv))) 32)/\((inK IntKind.i64 (s2.1.2.1+(1:Int)))/\(next (((),((s2.1.2.1+(1:Int)),())),((s2.2.1++((s2.1.2.1,([]:List Int))::([]:List buv))),()))))) (bc (S:=(buw×buy)) (fun s3=>(fun next1=>((inK IntKind.i64 s3.1.2.1)->((T.ok (T.sl aq) s3.2.1)->(cnd (decide (s3.1.2.1<((s3.2.1.length:Nat):Int))) (jd (S:=bu5) (fun s4=>((T.ok (T.sl aq) s4.2.1)->((inK IntKind.i64 (s3.1.2.1+(1:Int)))/\(next1 (((),((s3.1.2.1+(1:Int)),())),(s4.2.1,())))))) (fun k=>(((0:Int)<=s3.1.2.1)/\((s3.1.2.1<((s3.2.1.length:Nat):Int))/\(cnd ((((List.length (s3.2.1.getD s3.1.2.1.toNat ((0:Int),([]:List Int))).2):Nat):Int)==(6:Int)) (k (((),()),(s3.2.1,()))) (((0:Int)<=s3.1.2.1)/\((s3.1.2.1<((s3.2.1.length:Nat):Int))/\((s.2.1.length<=s.2.2.1.length)/\((inK IntKind.i64 (s.1-(1:Int)))/\(bc (S:=(buw×buy)) (fun s4=>(fun next2=>((inK IntKind.i64 s4.1.2.1)->((T.ok (T.sl aq) s4.2.1)->(cnd (decide (s4.1.2.1<((s.2.1.length:Nat):Int))) (jd (S:=bu5) (fun s5=>((T.ok (T.sl aq) s5.2.1)->((inK IntKind.i64 (s4.1.2.1+(1:Int)))/\(next2 (((),((s4.1.2.1+(1:Int)),())),(s5.2.1,())))))) (fun k1=>(((0:Int)<=s4.1.2.1)/\((s4.1.2.1<((s.2.1.length:Nat):Int))/\(cnd ((s.2.1.getD s4.1.2.1.toNat (0:Int)) != (bm s (s3.2.1.getD s3.1.2.1.toNat ((0:Int),([]:List Int)))).1) (k1 (((),()),(s4.2.1,()))) (cnd (((s4.2.1.length:Nat):Int)==(400:Int)) (K (([]:List buv),(Bool.true,()))) (((0:Int)<=s3.1.2.1)/\((s3.1.2.1<((s4.2.1.length:Nat):Int))/\(((0:Int)<=s3.1.2.1)/\((s3.1.2.1<((s4.2.1.length:Nat):Int))/\(((List.length (s4.2.1.getD s3.1.2.1.toNat ((0:Int),([]:List Int))).2)<=1099511627776)/\((ey (List.length (s4.2.1.getD s3.1.2.1.toNat ((0:Int),([]:List Int))).2) (List.length (s4.1.2.1::([]:List Int))) 8)/\((ey s4.2.1.length (List.length (((s4.2.1.getD s3.1.2.1.toNat ((0:Int),([]:List Int))).1,((s4.2.1.getD s3.1.2.1.toNat ((0:Int),([]:List Int))).2++(s4.1.2.1::([]:List Int))))::([]:List buv))) 32)/\(k1 (((),()),((s4.2.1++(((s4.2.1.getD s3.1.2.1.toNat ((0:Int),([]:List Int))).1,((s4.2.1.getD s3.1.2.1.toNat ((0:Int),([]:List Int))).2++(s4.1.2.1::([]:List Int))))::([]:List buv))),())))))))))))))))) (k (((),()),(s4.2.1,())))))))) (((),((0:Int),())),(s3.2.1,())))))))))))) (K (s3.2.1,(Bool.false,())))))))) (((),((0:Int),())),(s2.2.1,())))))))) (((),((0:Int),())),(s1.2.1,()))))) (fun k=>(k (((),()),(([]:List buv),())))))
theorem ak9(s:ac)(hok:ab (okL iz.args (s,())))(hpre:ab (iz.pre (s,()))):wq s (fun r=>r=iz.res (s,())):=by
 simp only[iz,ti,nv,okL,T.oks,T.ok,ap,ab,a0e,a0b,a0h]at hok hpre
 try dsimp only[T.den]at hok hpre
 unfold wq;obtain⟨hs,n0,n4,hf,ht⟩:=hpre;unfold cp at hs;refine g7 (fun (q:bu5)=>q.2.1=[]) ?_ (fun k hk=>hk _ rfl);rintro⟨_,l0,_⟩ e1;intros
 try dsimp only at e1⊢
 subst e1;refine bz (fun (q:(buw×buy))=>0<=q.1.2.1/\q.1.2.1<=s.1/\q.2.1=d6 q.1.2.1) (fun (q:(buw×buy))=>(s.1-q.1.2.1).toNat) ?_ ⟨by simp,n0,rfl⟩;rintro⟨⟨_,x,_⟩,l,_⟩ next ⟨x0,x1,q⟩ hnx
 intros
 try dsimp only at x0 x1 q hnx⊢
 subst q;have zl:(d6 x).length=x.toNat:=br _;refine al (fun hx=>?_) (fun hx=>?_)
 ·refine⟨c7 (by rw[zl];simp only[a0l,a0p];omega),by rw[aj];(try dsimp only);omega,hnx _ ⟨by dsimp only;omega,by dsimp only;omega,?_⟩ (by dsimp only;omega)⟩
  try dsimp only
  unfold d6;rw[wu x0]
 have ex:x=s.1:=by omega
 subst ex;clear hnx;have hz0:∀p∈d6 s.1,(bm s p).2=true:=by intro p hp;unfold d6 at hp;obtain⟨e,h0,h1,rfl⟩:=qy.1 hp;exact afy h0 (by omega)
 refine bz (fun (q:(buw×buy))=>0<=q.1.2.1/\q.1.2.1<=400/\gm s 402 0 (d6 s.1)=gm s (402-q.1.2.1).toNat q.1.2.1.toNat q.2.1/\(∀p∈q.2.1,(bm s p).2=true)/\q.2.1.length<=400) (fun (q:(buw×buy))=>(400-q.1.2.1).toNat) ?_ ⟨by simp,by simp,rfl,hz0,by dsimp only;omega⟩;rintro⟨⟨_,k,_⟩,L,_⟩ next ⟨k0,k41,hg,hp,hL⟩ hnx
 intros
 try dsimp only at k0 k41 hg hp hL hnx⊢
 refine al (fun hc=>?_) (fun hc=>?_)
 ·have hpk:=hp _ (fb L (0,[]) k0 hc);have hgk:gm s 402 0 (d6 s.1)=(if (L.getD k.toNat (0,[])).2.length=6 then gm s (402-(k+1)).toNat (k+1).toNat L else if 400<(L++jj s (L.getD k.toNat (0,[])) s.2.1.length).length then ([],false)else gm s (402-(k+1)).toNat (k+1).toNat (L++jj s (L.getD k.toNat (0,[])) s.2.1.length)):=by rw[hg,show (402-k).toNat=(402-(k+1)).toNat+1 from by omega,show (k+1).toNat=k.toNat+1 from by omega];rw[gm,d0 (by omega)]
  refine g7 (fun (q:bu5)=>gm s 402 0 (d6 s.1)=gm s (402-(k+1)).toNat (k+1).toNat q.2.1/\(∀p∈q.2.1,(bm s p).2=true)/\q.2.1.length<=400) ?_ ?_
  ·rintro⟨_,M,_⟩ ⟨m1,m2,m3⟩;intros
   try dsimp only at m1 m2 m3⊢
   exact⟨by rw[aj];(try dsimp only);omega,hnx _ ⟨by dsimp only;omega,by dsimp only;omega,m1,m2,m3⟩ (by dsimp only;omega)⟩
  intro kk hkk;generalize hP:L.getD k.toNat (0,[])=P at *;refine⟨k0,hc,aw (fun h6=>?_) (fun h6=>?_)⟩
  ·have h6:P.2.length=6:=by have:=a1y h6;omega
   rw[d0 h6]at hgk;exact hkk _ ⟨hgk,hp,hL⟩
  have h6:¬P.2.length=6:=by have:=a2b.1 h6;omega
  rw[ds h6]at hgk;refine⟨k0,hc,by omega,by rw[aj];(try dsimp only);omega,?_⟩;refine bz (fun (q:(buw×buy))=>0<=q.1.2.1/\q.1.2.1<=s.2.1.length/\q.2.1=L++jj s P q.1.2.1.toNat/\q.2.1.length<=400) (fun (q:(buw×buy))=>(s.2.1.length-q.1.2.1).toNat) ?_ ⟨by simp,by simp,by simp[jj,dv],hL⟩;rintro⟨⟨_,e,_⟩,M,_⟩ next1 ⟨e0,e1,q,hM⟩ hn1;intros
  try dsimp only at e0 e1 q hM hn1⊢
  subst q;have hMk:k<(L++jj s P e.toNat).length:=by rw[a0q];omega
  have hG:(L++jj s P e.toNat).getD k.toNat (0,[])=P:=by rw[axj (by omega),hP]
  have hE:=@bas s P e e0;rw[hG];have hp6:=aak hpk;refine al (fun he=>?_) (fun he=>?_)
  ·refine g7 (fun (q:bu5)=>q.2.1=L++jj s P (e+1).toNat/\q.2.1.length<=400) ?_ ?_
   ·rintro⟨_,M2,_⟩ ⟨q2,q3⟩;intros
    try dsimp only at q2 q3⊢
    subst q2;exact⟨by rw[aj];(try dsimp only);omega,hn1 _ ⟨by dsimp only;omega,by dsimp only;omega,rfl,q3⟩ (by dsimp only;omega)⟩
   ·intro k1 hk1;rw[hE]at hk1;refine⟨e0,he,aw (fun hb=>?_) (fun hb=>?_)⟩
    ·have hb:¬(s.2.1.getD e.toNat 0==ib s P)=true:=by rw[(jf hpk).1];intro h;rw[a1y h]at hb;simp at hb
     rw[ds hb,a2k]at hk1;exact hk1 _ ⟨rfl,hM⟩
    ·have hb:(s.2.1.getD e.toNat 0==ib s P)=true:=by rw[(jf hpk).1];exact a0t.2 (a1a.1 hb)
     rw[d0 hb]at hk1 hE;refine aw (fun h4=>?_) (fun h4=>?_)
     ·have h4:=a1y h4;have hbig:400<(L++jj s P s.2.1.length).length:=by have:=@bbw s P (e+1).toNat s.2.1.length (by omega);rw[hE]at this;simp only[a0q,a0l,a0p]at this h4⊢;omega
      rw[d0 hbig]at hgk;rw[hgk]at hs;cases hs
     ·have h4:=a2b.1 h4;refine⟨k0,hMk,k0,hMk,by omega,c7 (by simp only[a0l,a0p];omega),c7 (by simp only[a0l,a0p];omega),hk1 _ ⟨a07 _ _ _,?_⟩⟩;rw[a0q];simp only[a0l,a0p];omega
  ·have ee:e=s.2.1.length:=by omega
   subst ee;rw[a0m]at hM⊢;rw[ds (by omega)]at hgk;refine hkk _ ⟨hgk,fun p hp'=>?_,hM⟩;rcases a04.1 hp' with h|h
   ·exact hp p h
   ·exact awu hpk h6 (a0f _) h
 ·have hgl:gm s 402 0 (d6 s.1)=(L,true):=by rw[hg,show (402-k).toNat=(401-k).toNat+1 from by omega,gm,ds (by omega)]
  simp only[iz,ti,nv,cp];rw[hgl]
theorem akn:bn Tryz.prog 110 iz:=ctb (af ot (af sj ao)) ba 110 Tryz.f110 iz abk [(18,8000055014)] (by kernel_rfl) rfl (fun x K=>wq x.1 K) (fun _ _=>by kernel_rfl) (fun x h1 h2=>ak9 x.1 h1 h2)
def ws(s:ac)(K:je j7.rt->Prop):Prop:=(jd (S:=bu5) (fun s1=>((T.ok (T.sl aq) s1.2.1)->(bc (S:=(buw×buy)) (fun s2=>(fun next=>((inK IntKind.i64 s2.1.2.1)->((T.ok (T.sl aq) s2.2.1)->(cnd (decide (s2.1.2.1<s.1)) ((ey s2.2.1.length (List.length ((s2.1.2.1,([]:List Int))::([]:List buv))) 32)/\((inK IntKind.i64 (s2.1.2.1+(1:Int)))/\(next (((),((s2.1.2.1+(1:Int)),())),((s2.2.1++((s2.1.2.1,([]:List Int))::([]:List buv))),()))))) (bc (S:=(buw×buy)) (fun s3=>(fun next1=>((inK IntKind.i64 s3.1.2.1)->((T.ok (T.sl aq) s3.2.1)->(cnd (decide (s3.1.2.1<((s3.2.1.length:Nat):Int))) (jd (S:=bu5) (fun s4=>((T.ok (T.sl aq) s4.2.1)->((inK IntKind.i64 (s3.1.2.1+(1:Int)))/\(next1 (((),((s3.1.2.1+(1:Int)),())),(s4.2.1,())))))) (fun k=>(((0:Int)<=s3.1.2.1)/\((s3.1.2.1<((s3.2.1.length:Nat):Int))/\(cnd ((((List.length (s3.2.1.getD s3.1.2.1.toNat ((0:Int),([]:List Int))).2):Nat):Int)==(6:Int)) (k (((),()),(s3.2.1,()))) (((0:Int)<=s3.1.2.1)/\((s3.1.2.1<((s3.2.1.length:Nat):Int))/\((s.2.1.length<=s.2.2.1.length)/\((inK IntKind.i64 (s.1-(1:Int)))/\(bc (S:=(buw×buy)) (fun s4=>(fun next2=>((inK IntKind.i64 s4.1.2.1)->((T.ok (T.sl aq) s4.2.1)->(cnd (decide (s4.1.2.1<((s.2.1.length:Nat):Int))) (jd (S:=bu5) (fun s5=>((T.ok (T.sl aq) s5.2.1)->((inK IntKind.i64 (s4.1.2.1+(1:Int)))/\(next2 (((),((s4.1.2.1+(1:Int)),())),(s5.2.1,())))))) (fun k1=>(((0:Int)<=s4.1.2.1)/\((s4.1.2.1<((s.2.1.length:Nat):Int))/\(cnd ((s.2.1.getD s4.1.2.1.toNat (0:Int)) != (bm s (s3.2.1.getD s3.1.2.1.toNat ((0:Int),([]:List Int)))).1) (k1 (((),()),(s4.2.1,()))) (cnd (((s4.2.1.length:Nat):Int)==(400:Int)) (K (([]:List buv),(Bool.true,()))) (((0:Int)<=s3.1.2.1)/\((s3.1.2.1<((s4.2.1.length:Nat):Int))/\(((0:Int)<=s3.1.2.1)/\((s3.1.2.1<((s4.2.1.length:Nat):Int))/\(((List.length (s4.2.1.getD s3.1.2.1.toNat ((0:Int),([]:List Int))).2)<=1099511627776)/\((ey (List.length (s4.2.1.getD s3.1.2.1.toNat ((0:Int),([]:List Int))).2) (List.length (s4.1.2.1::([]:List Int))) 8)/\((ey s4.2.1.length (List.length (((s4.2.1.getD s3.1.2.1.toNat ((0:Int),([]:List Int))).1,((s4.2.1.getD s3.1.2.1.toNat ((0:Int),([]:List Int))).2++(s4.1.2.1::([]:List Int))))::([]:List buv))) 32)/\(k1 (((),()),((s4.2.1++(((s4.2.1.getD s3.1.2.1.toNat ((0:Int),([]:List Int))).1,((s4.2.1.getD s3.1.2.1.toNat ((0:Int),([]:List Int))).2++(s4.1.2.1::([]:List Int))))::([]:List buv))),())))))))))))))))) (k (((),()),(s4.2.1,())))))))) (((),((0:Int),())),(s3.2.1,())))))))))))) (K (s3.2.1,(Bool.false,())))))))) (((),((0:Int),())),(s2.2.1,())))))))) (((),((0:Int),())),(s1.2.1,()))))) (fun k=>(k (((),()),(([]:List buv),())))))
theorem ak5(s:ac)(hok:ab (okL j7.args (s,())))(hpre:ab (j7.pre (s,()))):ws s (fun r=>r=j7.res (s,())):=by
 simp only[j7,ti,nv,okL,T.oks,T.ok,ap,ab,a0e,a0b,a0h]at hok hpre
 try dsimp only[T.den]at hok hpre
 unfold ws;obtain⟨hs,n0,n4,hf,ht⟩:=hpre;unfold cp at hs;refine g7 (fun (q:bu5)=>q.2.1=[]) ?_ (fun k hk=>hk _ rfl);rintro⟨_,l0,_⟩ e1;intros
 try dsimp only at e1⊢
 subst e1;refine bz (fun (q:(buw×buy))=>0<=q.1.2.1/\q.1.2.1<=s.1/\q.2.1=d6 q.1.2.1) (fun (q:(buw×buy))=>(s.1-q.1.2.1).toNat) ?_ ⟨by simp,n0,rfl⟩;rintro⟨⟨_,x,_⟩,l,_⟩ next ⟨x0,x1,q⟩ hnx
 intros
 try dsimp only at x0 x1 q hnx⊢
 subst q;have zl:(d6 x).length=x.toNat:=br _;refine al (fun hx=>?_) (fun hx=>?_)
 ·refine⟨c7 (by rw[zl];simp only[a0l,a0p];omega),by rw[aj];(try dsimp only);omega,hnx _ ⟨by dsimp only;omega,by dsimp only;omega,?_⟩ (by dsimp only;omega)⟩
  try dsimp only
  unfold d6;rw[wu x0]
 have ex:x=s.1:=by omega
 subst ex;clear hnx;have hz0:∀p∈d6 s.1,(bm s p).2=true:=by intro p hp;unfold d6 at hp;obtain⟨e,h0,h1,rfl⟩:=qy.1 hp;exact afy h0 (by omega)
 refine bz (fun (q:(buw×buy))=>0<=q.1.2.1/\q.1.2.1<=400/\gm s 402 0 (d6 s.1)=gm s (402-q.1.2.1).toNat q.1.2.1.toNat q.2.1/\(∀p∈q.2.1,(bm s p).2=true)/\q.2.1.length<=400) (fun (q:(buw×buy))=>(400-q.1.2.1).toNat) ?_ ⟨by simp,by simp,rfl,hz0,by dsimp only;omega⟩;rintro⟨⟨_,k,_⟩,L,_⟩ next ⟨k0,k41,hg,hp,hL⟩ hnx
 intros
 try dsimp only at k0 k41 hg hp hL hnx⊢
 refine al (fun hc=>?_) (fun hc=>?_)
 ·have hpk:=hp _ (fb L (0,[]) k0 hc);have hgk:gm s 402 0 (d6 s.1)=(if (L.getD k.toNat (0,[])).2.length=6 then gm s (402-(k+1)).toNat (k+1).toNat L else if 400<(L++jj s (L.getD k.toNat (0,[])) s.2.1.length).length then ([],false)else gm s (402-(k+1)).toNat (k+1).toNat (L++jj s (L.getD k.toNat (0,[])) s.2.1.length)):=by rw[hg,show (402-k).toNat=(402-(k+1)).toNat+1 from by omega,show (k+1).toNat=k.toNat+1 from by omega];rw[gm,d0 (by omega)]
  refine g7 (fun (q:bu5)=>gm s 402 0 (d6 s.1)=gm s (402-(k+1)).toNat (k+1).toNat q.2.1/\(∀p∈q.2.1,(bm s p).2=true)/\q.2.1.length<=400) ?_ ?_
  ·rintro⟨_,M,_⟩ ⟨m1,m2,m3⟩;intros
   try dsimp only at m1 m2 m3⊢
   exact⟨by rw[aj];(try dsimp only);omega,hnx _ ⟨by dsimp only;omega,by dsimp only;omega,m1,m2,m3⟩ (by dsimp only;omega)⟩
  intro kk hkk;generalize hP:L.getD k.toNat (0,[])=P at *;refine⟨k0,hc,aw (fun h6=>?_) (fun h6=>?_)⟩
  ·have h6:P.2.length=6:=by have:=a1y h6;omega
   rw[d0 h6]at hgk;exact hkk _ ⟨hgk,hp,hL⟩
  have h6:¬P.2.length=6:=by have:=a2b.1 h6;omega
  rw[ds h6]at hgk;refine⟨k0,hc,by omega,by rw[aj];(try dsimp only);omega,?_⟩;refine bz (fun (q:(buw×buy))=>0<=q.1.2.1/\q.1.2.1<=s.2.1.length/\q.2.1=L++jj s P q.1.2.1.toNat/\q.2.1.length<=400) (fun (q:(buw×buy))=>(s.2.1.length-q.1.2.1).toNat) ?_ ⟨by simp,by simp,by simp[jj,dv],hL⟩;rintro⟨⟨_,e,_⟩,M,_⟩ next1 ⟨e0,e1,q,hM⟩ hn1;intros
  try dsimp only at e0 e1 q hM hn1⊢
  subst q;have hMk:k<(L++jj s P e.toNat).length:=by rw[a0q];omega
  have hG:(L++jj s P e.toNat).getD k.toNat (0,[])=P:=by rw[axj (by omega),hP]
  have hE:=@bas s P e e0;rw[hG];have hp6:=aak hpk;refine al (fun he=>?_) (fun he=>?_)
  ·refine g7 (fun (q:bu5)=>q.2.1=L++jj s P (e+1).toNat/\q.2.1.length<=400) ?_ ?_
   ·rintro⟨_,M2,_⟩ ⟨q2,q3⟩;intros
    try dsimp only at q2 q3⊢
    subst q2;exact⟨by rw[aj];(try dsimp only);omega,hn1 _ ⟨by dsimp only;omega,by dsimp only;omega,rfl,q3⟩ (by dsimp only;omega)⟩
   ·intro k1 hk1;rw[hE]at hk1;refine⟨e0,he,aw (fun hb=>?_) (fun hb=>?_)⟩
    ·have hb:¬(s.2.1.getD e.toNat 0==ib s P)=true:=by rw[(jf hpk).1];intro h;rw[a1y h]at hb;simp at hb
     rw[ds hb,a2k]at hk1;exact hk1 _ ⟨rfl,hM⟩
    ·have hb:(s.2.1.getD e.toNat 0==ib s P)=true:=by rw[(jf hpk).1];exact a0t.2 (a1a.1 hb)
     rw[d0 hb]at hk1 hE;refine aw (fun h4=>?_) (fun h4=>?_)
     ·have h4:=a1y h4;have hbig:400<(L++jj s P s.2.1.length).length:=by have:=@bbw s P (e+1).toNat s.2.1.length (by omega);rw[hE]at this;simp only[a0q,a0l,a0p]at this h4⊢;omega
      rw[d0 hbig]at hgk;rfl
     ·have h4:=a2b.1 h4;refine⟨k0,hMk,k0,hMk,by omega,c7 (by simp only[a0l,a0p];omega),c7 (by simp only[a0l,a0p];omega),hk1 _ ⟨a07 _ _ _,?_⟩⟩;rw[a0q];simp only[a0l,a0p];omega
  ·have ee:e=s.2.1.length:=by omega
   subst ee;rw[a0m]at hM⊢;rw[ds (by omega)]at hgk;refine hkk _ ⟨hgk,fun p hp'=>?_,hM⟩;rcases a04.1 hp' with h|h
   ·exact hp p h
   ·exact awu hpk h6 (a0f _) h
 ·have hgl:gm s 402 0 (d6 s.1)=(L,true):=by rw[hg,show (402-k).toNat=(401-k).toNat+1 from by omega,gm,ds (by omega)]
  rw[hgl]at hs;cases hs
theorem akc:bn Tryz.prog 110 j7:=ctb (af ot (af sj ao)) ba 110 Tryz.f110 j7 abk [(18,8000055014)] (by kernel_rfl) rfl (fun x K=>ws x.1 K) (fun _ _=>by kernel_rfl) (fun x h1 h2=>ak5 x.1 h1 h2)
theorem adq:bn Tryz.prog 110 adu:=ba6 akn akc
def ia{α:Type}[DecidableEq α]:List α->α->Int
 |[],_=>-1
 |a::r,x=>if a=x then 0 else (if ia r x<0 then -1 else ia r x+1)
theorem sg{α:Type}[DecidableEq α](z:α):∀{l:List α} {x:α},(x∈l->0<=ia l x/\ia l x<l.length/\l.getD (ia l x).toNat z=x/\∀i:Int,0<=i->i<ia l x->l.getD i.toNat z≠x)/\(x∉l->ia l x=-1)
 |[],x=>by simp[ia]
 |a::r,x=>by
  have ih:=@sg α _ z r x;rw[ia];by_cases h:a=x
  ·subst h;simp only[a01,a0s,true_or,not_true_eq_false,false_implies,a0b,true_implies];exact⟨a0r _,by simp,rfl,fun i i0 i1=>by omega⟩
  ·rw[ds h];simp only[a0s,not_or];refine⟨fun hm=>?_,fun hm=>?_⟩
   ·have hm:x∈r:=hm.resolve_left fun e=>h e.symm;obtain⟨h0,h1,h2,h3⟩:=ih.1 hm;rw[ds (by omega)];have e:(ia r x+1).toNat=(ia r x).toNat+1:=by omega
    refine⟨by omega,by simp only[a0l];omega,by rw[e,a42];exact h2,fun i i0 i1=>?_⟩;by_cases hi:i=0
    ·rw[hi];exact h
    ·have e:i.toNat=(i-1).toNat+1:=by omega
     rw[e,a42];exact h3 (i-1) (by omega) (by omega)
   ·rw[ih.2 hm.2,d0 (by omega)]
theorem ava{α:Type}[DecidableEq α]{z:α}{l:List α}{x:α}{i:Int}(i0:0<=i)(i1:i<l.length)(h:l.getD i.toNat z=x)(hn:∀k:Int,0<=k->k<i->l.getD k.toNat z≠x):ia l x=i:=by
 have hm:x∈l:=h▸fb l z i0 i1;obtain⟨h0,h1,h2,h3⟩:=(sg z).1 hm;rcases Int.lt_trichotomy (ia l x) i with hl|hl|hl
 ·exact absurd h2 (hn _ h0 hl)
 ·exact hl
 ·exact absurd h (h3 i i0 hl)
theorem brs{α:Type}[DecidableEq α]{z:α}{l:List α}{x:α}(hn:∀k:Int,0<=k->k<l.length->l.getD k.toNat z≠x):ia l x=-1:=by refine (sg z).2 fun hm=>?_;obtain⟨h0,h1,h2,_⟩:=(sg z).1 hm;exact hn _ h0 h1 h2
def mg(s:List Int)(k:Int):List Int:=if ia s k<0 then s++[k]else s
def ij(l:List Int):List Int:=l.foldl mg []
def cn(l:List Int):List Int:=l.map (ia (ij l))
theorem bgk{s:List Int}{k:Int}(r:List Int)(h:0<=ia s k):ia (s++r) k=ia s k:=by
 have hm:k∈s:=a3u fun hn=>by have:=(sg (0:Int)).2 hn;omega
 obtain⟨h0,h1,h2,h3⟩:=(sg (0:Int)).1 hm;have hg:∀i:Int,0<=i->i<s.length->(s++r).getD i.toNat 0=s.getD i.toNat 0:=fun i i0 i1=>by simp only[a0n];rw[a1g (by omega)]
 refine ava (z:=(0:Int)) h0 (by rw[a0q];omega) (by rw[hg _ h0 h1];exact h2) fun i i0 i1=>?_;rw[hg i i0 (by omega)];exact h3 i i0 i1
theorem bf2:∀(l:List Int) (s:List Int),∃r,l.foldl mg s=s++r
 |[],s=>⟨[],by simp⟩
 |k::l,s=>by
  obtain⟨r,hr⟩:=bf2 l (mg s k);rw[a16,hr];unfold mg;split
  ·exact⟨k::r,by simp⟩
  ·exact⟨r,rfl⟩
theorem ard:∀(l:List Int) (s:List Int),(l.foldl mg s).length<=s.length+l.length
 |[],s=>by simp
 |k::l,s=>by
  have:=ard l (mg s k);rw[a16,a0l];have h2:(mg s k).length<=s.length+1:=by unfold mg;split <;> simp
  omega
theorem baq{l:List Int}{i:Int}(i0:0<=i)(i1:i<l.length):ij (l.take (i+1).toNat)=mg (ij (l.take i.toNat)) (l.getD i.toNat 0):=by rw[ii l 0 i0 i1];unfold ij;rw[a3j];rfl
theorem alh{l:List Int}{n:Nat}{k:Int}(h:0<=ia (ij (l.take n)) k):ia (ij l) k=ia (ij (l.take n)) k:=by
 obtain⟨r,hr⟩:=bf2 (l.drop n) (ij (l.take n))
 have:ij l=ij (l.take n)++r:=by
  rw[←hr]
  conv=>lhs;rw[←a10 n l]
  unfold ij;rw[a3j]
 rw[this,bgk r h]
theorem ayp{s:List Int}{k:Int}(h:ia s k<0):ia (s++[k]) k=s.length:=by
 have hm:k∉s:=fun hm=>by have:=((sg (0:Int)).1 hm).1;omega
 refine ava (z:=(0:Int)) (by omega) (by simp only[a0q,a0l,a0p];omega) (by simp[a0n]) fun i i0 i1=>?_;simp only[a0n];rw[a1g (by omega)];intro e;exact hm (e▸(by rw[←a0n];exact fb s 0 i0 i1))
structure NumM (m:List (Int×Int)) (s:List Int):Prop where
 n:m.length=s.length
 f:∀k:Int,s9 (.int .i64) (.int .i64) m k=if ia s k<0 then none else some (ia s k)
theorem azj{x y z:Int}:∀{l:List (Int×Int)},s9 (.int .i64) (.int .i64) (jq (.int .i64) (.int .i64) l x z) y=if y=x then some z else s9 (.int .i64) (.int .i64) l y
 |[]=>by
  show s9 (.int .i64) (.int .i64) [(x,z)] y=_;rw[jl];by_cases h:y=x
  ·rw[d0 (dc.2 h),d0 h]
  ·rw[ds (fun e=>h (dc.1 e)),ds h]
 |e::r=>by
  have ih:=@azj x y z r;unfold jq;by_cases h:eqR (.int .i64) x e.1=true
  ·rw[d0 h,jl,jl];have e1:=dc.1 h;rw[←e1];by_cases h2:y=x
   ·rw[d0 (dc.2 h2),d0 h2]
   ·rw[ds (fun e=>h2 (dc.1 e)),ds h2,ds (fun e=>h2 (dc.1 e))]
  ·rw[ds h,jl,jl,ih];by_cases h2:eqR (.int .i64) y e.1=true
   ·rw[d0 h2,d0 h2,ds];intro h3;exact h (dc.2 (h3▸dc.1 h2))
   ·rw[ds h2,ds h2]
theorem NumM.add{m:List (Int×Int)}{s:List Int}(h:NumM m s){k:Int}(hk:ia s k<0):NumM (jq (.int .i64) (.int .i64) m k m.length) (s++[k]):=by
 have hno:k∉m.map (·.1):=fun hm=>by
  have:∀{l:List (Int×Int)},k∈l.map (·.1)->s9 (.int .i64) (.int .i64) l k≠none:=by
   intro l
   induction l with
   |nil=>intro h;simp at h
   |cons e r ih=>
    intro hm;rw[jl];split
    ·simp
    ·rename_i h1;rcases a0s.1 hm with h2|h2
     ·exact absurd (dc.2 h2) h1
     ·exact ih h2
  have:=this hm;rw[h.f,d0 hk]at this;exact this rfl
 refine⟨?_,fun y=>?_⟩
 ·have:=@bb6 (.int .i64) (.int .i64) k m.length m hno;rw[this,a0q,h.n];rfl
 ·rw[azj];by_cases e:y=k
  ·subst e;rw[d0 rfl,ayp hk,ds (by omega),h.n]
  ·rw[ds e,h.f];by_cases hy:ia s y<0
   ·have hn:y∉s:=fun hm=>by have:=((sg (0:Int)).1 hm).1;omega
    have:ia (s++[k]) y=-1:=(sg (0:Int)).2 (by simp[hn,e]);rw[d0 hy,this,d0 (by omega)]
   ·rw[bgk _ (by omega)]
def qa:Ct:=⟨[(.sl (.int .i64))],[false],fun x=>[x.1.length<=1099511627776],[(false,(.sl (.fz (.int .i64))))],fun x=>(cn x.1,()),false,none⟩
def awz:Ann:=(.s .n (.s .n (.s .n (.s (.s .n (.l [(3,(.ref 9 [])),(4,(.ref 12 [])),(15,(.d (.int .i64)))] [(9,(.mp (.int .i64) (.int .i64))),(12,(.sl (.fz (.int .i64))))] [13,14] (.s .n (.s .n (.s (.s .n (.s .n (.s (.s .n (.j [(3,(.ref 9 [])),(4,(.ref 12 [])),(7,(.d (.int .i64)))] [(9,(.mp (.int .i64) (.int .i64))),(12,(.sl (.fz (.int .i64))))] [5,13,14,15] .n)) .n))) .n))))) .n))))
def af9(labels:List Int)(K:(List Int)×Unit->Prop):Prop:=((0<=(labels.length:Int))/\(((labels.length:Int)<=(labels.length:Int))/\(((labels.length:Int)<=((140737488355328:Nat):Int))/\((((labels.length:Int)*((8:Nat):Int))<=((140737488355328:Nat):Int))/\(bc (S:=bva) (fun s=>(fun next=>((inK .i64 s.1.2.2.1)->((T.ok (T.mp (.int .i64) (.int .i64)) s.2.1)->((T.ok (.sl (.int .i64)) s.2.2.1)->(cnd (decide (s.1.2.2.1<(labels.length:Int))) ((0<=s.1.2.2.1)/\((s.1.2.2.1<(labels.length:Int))/\(jd (S:=bva) (fun s1=>((inK .i64 s1.1.2.2.1)->((T.ok (T.mp (.int .i64) (.int .i64)) s1.2.1)->((T.ok (.sl (.int .i64)) s1.2.2.1)->((0<=s.1.2.2.1)/\((s.1.2.2.1<(s1.2.2.1.length:Int))/\((inK .i64 (s.1.2.2.1+1))/\(next (((),((),((s.1.2.2.1+1),()))),(s1.2.1,((List.set s1.2.2.1 s.1.2.2.1.toNat s1.1.2.2.1),()))))))))))) (fun k=>(cnd (!(aj5 (.int .i64) (.int .i64) s.2.1 (labels.getD s.1.2.2.1.toNat 0))) ((ey s.2.1.length 1 1)/\(k (((),((),((s.2.1.length:Int),()))),((jq (.int .i64) (.int .i64) s.2.1 (labels.getD s.1.2.2.1.toNat 0) (s.2.1.length:Int)),(s.2.2.1,()))))) (k (((),((),((rj (.int .i64) (.int .i64) s.2.1 (labels.getD s.1.2.2.1.toNat 0)),()))),(s.2.1,(s.2.2.1,()))))))))) (K (s.2.2.1,())))))))) (((),((),(0,()))),(([]:List (Int×Int)),((List.replicate (Int.toNat (labels.length:Int)) (0:Int)),()))))))))
theorem bae(labels:List Int)(hok:ab (okL qa.args (labels,())))(hpre:ab (qa.pre (labels,()))):af9 labels (fun r=>r=qa.res (labels,())):=by
 simp only[qa,okL,T.oks,T.ok,ap,ab,a0e,a0b,a0h]at hok hpre
 try dsimp only[T.den]at hok hpre
 unfold af9;have hl:labels.length<=1099511627776:=hpre;clear hok;refine⟨by omega,a0r _,by omega,by omega,?_⟩;rw[a0m,ahu];refine bz (fun (s:bva)=>0<=s.1.2.2.1/\s.1.2.2.1<=labels.length/\NumM s.2.1 (ij (labels.take s.1.2.2.1.toNat))/\s.2.2.1=dv labels.length fun k=>if k<s.1.2.2.1 then ia (ij labels) (labels.getD k.toNat 0)else 0) (fun (s:bva)=>(labels.length-s.1.2.2.1).toNat) ?_ ⟨by simp,by simp,⟨rfl,fun k=>rfl⟩,dg fun k k0 _=>by dsimp only;rw[ds (by omega)]⟩;rintro⟨⟨_,_,i,_⟩,m,out,_⟩ next ⟨i0,i1,hM,ho⟩ hn _ _ _
 try dsimp only at i0 i1 hM ho hn⊢
 refine al (fun hc=>?_) (fun hc=>?_)
 ·have hs:=@baq labels i i0 hc;have hex:=@alh labels (i+1).toNat (labels.getD i.toNat 0);have hml:m.length<=labels.length:=by rw[hM.n];have:=ard (labels.take i.toNat) [];rw[a1d]at this;simp only[a0p]at this;unfold ij;omega
  have hout:∀v:Int,v=ia (ij labels) (labels.getD i.toNat 0)->out.set i.toNat v=dv labels.length fun k=>if k<i+1 then ia (ij labels) (labels.getD k.toNat 0)else 0:=fun v hv=>by
   rw[ho,aah i0 hc];refine dg fun k k0 k1=>?_;by_cases h:k=i
   ·rw[d0 h,d0 (by omega),hv,h]
   ·rw[ds h];by_cases h2:k<i
    ·rw[d0 h2,d0 (by omega)]
    ·rw[ds h2,ds (by omega)]
  have hol:i<(out.length:Int):=by rw[ho,br];exact hc
  rw[hs]at hex;generalize labels.getD i.toNat 0=k at *;refine⟨i0,hc,?_⟩;refine g7 (fun (s:bva)=>NumM s.2.1 (mg (ij (labels.take i.toNat)) k)/\s.1.2.2.1=ia (ij labels) k/\s.2.2.1=out) (fun s ⟨s1,s2,s3⟩ _ _ _=>⟨i0,by rw[s3];exact hol,by rw[aj];(try dsimp only);omega,hn _ ⟨by dsimp only;omega,by dsimp only;omega,by dsimp only;rw[hs];exact s1,by dsimp only;rw[s3];exact hout _ s2⟩ (by dsimp only;omega)⟩) (fun kk hk=>?_);have hf:=hM.f k;refine aw (fun hx=>?_) (fun hx=>?_)
  ·have hneg:ia (ij (labels.take i.toNat)) k<0:=by refine a3u fun h=>?_;rw[ds h]at hf;simp[aj5,hf]at hx
   have hd:mg (ij (labels.take i.toNat)) k=ij (labels.take i.toNat)++[k]:=by unfold mg;rw[d0 hneg]
   have hi:=ayp hneg;rw[hd]at hex hk;rw[hi]at hex;refine⟨by unfold ey;rw[b9];omega,hk _ ⟨hM.add hneg,?_,rfl⟩⟩
   try dsimp only
   rw[hex (by omega),hM.n]
  ·have hpos:¬ia (ij (labels.take i.toNat)) k<0:=fun h=>by rw[d0 h]at hf;simp[aj5,hf]at hx
   have hd:mg (ij (labels.take i.toNat)) k=ij (labels.take i.toNat):=by unfold mg;rw[ds hpos]
   rw[ds hpos]at hf;rw[hd]at hex hk;refine hk _ ⟨hM,?_,rfl⟩
   try dsimp only
   rw[hex (by omega)];unfold rj;rw[hf];rfl
 ·have e:i=labels.length:=by omega
  subst e;simp only[qa,cn];rw[ho];congr 1;apply a2a;intro k;rw[a1b];by_cases hk:k<labels.length
  ·have h1:=@pw Int (fun k=>if k<(labels.length:Int)then ia (ij labels) (labels.getD k.toNat 0)else 0) 0 k labels.length (by omega) (by omega);rw[a0m,d0 (by omega),a0n,a0o (by rw[br];exact hk)]at h1;rw[a0o (by rw[br];exact hk),a0o hk];simp only[a0z]at h1;rw[h1,a0n,a0o hk];rfl
  ·rw[a1p (by rw[br];omega),a1p (by omega)];rfl
theorem aw0:bn Tryz.prog 130 qa:=ctb ao ba 130 Tryz.f130 qa awz [] (by kernel_rfl) rfl (fun x K=>af9 x.1 K) (fun _ _=>by kernel_rfl) (fun x h1 h2=>bae x.1 h1 h2)
def fa(j:List Int):List Int:=dv j.length (ez j)
def av0(j:List Int):Nat->List Int
 |0=>j
 |n+1=>(cw (av0 j n) n).1
def bsb(j:List Int):List Int:=av0 j j.length
def gj:Wt:=⟨(.sl (.fz (.int .i64))),[],[],fun x y=>[UfP x,x.length<=1099511627776],fun x y=>bsb x,[(false,(.sl (.fz (.int .i64))))],fun x y=>(cn (fa x),())⟩
def aax:Ct:=ax3 gj
def aif:Ann:=(.s .n (.s .n (.s (.s .n (.l [(0,(.ref 1000000 [])),(3,(.ref 7 [])),(10,(.d (.int .i64)))] [(1000000,(.sl (.fz (.int .i64)))),(7,(.sl (.fz (.int .i64))))] [9] .n)) .n)))
def aio:FuncId->Option Ct:=lkp [(129,zw),(130,qa)]
def aav(j:List Int)(K:(List Int)->buz->Prop):Prop:=((0<=(j.length:Int))/\(((j.length:Int)<=(j.length:Int))/\(((j.length:Int)<=((140737488355328:Nat):Int))/\((((j.length:Int)*((8:Nat):Int))<=((140737488355328:Nat):Int))/\(bc (S:=bu6) (fun s=>(fun next=>((inK .i64 s.1.2.2.1)->((T.ok (.sl (.int .i64)) s.2.1)->((T.ok (.sl (.int .i64)) s.2.2.1)->(cnd (decide (s.1.2.2.1<(j.length:Int))) ((UfP s.2.1)/\((0<=s.1.2.2.1)/\((s.1.2.2.1<(s.2.1.length:Int))/\((0<=s.1.2.2.1)/\((s.1.2.2.1<(s.2.2.1.length:Int))/\((inK .i64 (s.1.2.2.1+1))/\(next (((),((),((s.1.2.2.1+1),()))),((cw s.2.1 s.1.2.2.1).1,((List.set s.2.2.1 s.1.2.2.1.toNat (cw s.2.1 s.1.2.2.1).2),())))))))))) ((s.2.2.1.length<=1099511627776)/\(K s.2.1 ((cn s.2.2.1),()))))))))) (((),((),(0,()))),(j,((List.replicate (Int.toNat (j.length:Int)) (0:Int)),()))))))))
theorem aje(j:List Int)(hok:ab (gj.o.strip.oks j))(hok2:ab (okL gj.as (())))(hpre:ab (gj.pre j (()))):aav j (fun z r=>z=gj.new j (())/\r=gj.res j (())):=by
 simp only[gj,O.strip,okL,T.oks,T.ok,ap,ab,a0e,a0b,a0h]at hok hok2 hpre
 try dsimp only[T.den]at hok
 try dsimp only[T.den]at hok2
 try dsimp only[T.den]at hpre
 unfold aav;obtain⟨U,hl⟩:=hpre;clear hok;refine⟨by omega,a0r _,by omega,by omega,?_⟩;rw[a0m,ahu];refine bz (fun (s:bu6)=>0<=s.1.2.2.1/\s.1.2.2.1<=j.length/\s.2.1=av0 j s.1.2.2.1.toNat/\UfP s.2.1/\s.2.1.length=j.length/\(∀y:Int,0<=y->y<j.length->ez s.2.1 y=ez j y)/\s.2.2.1=dv j.length fun k=>if k<s.1.2.2.1 then ez j k else 0) (fun (s:bu6)=>(j.length-s.1.2.2.1).toNat) ?_ ⟨by simp,by simp,rfl,U,rfl,fun _ _ _=>rfl,dg fun k k0 _=>by dsimp only;rw[ds (by omega)]⟩;rintro⟨⟨_,_,i,_⟩,l,out,_⟩ next ⟨i0,i1,hq,V,hll,hr,ho⟩ hn _ _ _
 try dsimp only at i0 i1 hq V hll hr ho hn⊢
 refine al (fun hc=>?_) (fun hc=>?_)
 ·obtain⟨a1,a2,a3,a4⟩:=ak6 V i0 (by omega);refine⟨V,i0,by omega,i0,by rw[ho,br];exact hc,by rw[aj];(try dsimp only);omega,hn _ ⟨by dsimp only;omega,by dsimp only;omega,?_,a1,by dsimp only;rw[a2];exact hll,fun y y0 y1=>?_,?_⟩ (by dsimp only;omega)⟩
  ·try dsimp only
   rw[show (i+1).toNat=i.toNat+1 from by omega,av0,hq,show ((i.toNat:Nat):Int)=i from by omega]
  ·try dsimp only;rw[a4 y y0 (by omega),hr y y0 y1]
  ·try dsimp only
   rw[ho,aah i0 hc];refine dg fun k k0 k1=>?_;by_cases h:k=i
   ·rw[d0 h,d0 (by omega),a3,hr i i0 hc,h]
   ·rw[ds h];by_cases h2:k<i
    ·rw[d0 h2,d0 (by omega)]
    ·rw[ds h2,ds (by omega)]
 ·have e:i=j.length:=by omega
  subst e;have hrep:out=fa j:=by rw[ho];exact dg fun k _ k1=>by rw[d0 k1]
  refine⟨by rw[ho,br];exact hl,?_⟩;rw[a0m]at hq;exact⟨hq,by rw[hrep];rfl⟩
theorem aae:bn Tryz.prog 116 aax:=bh9 (Φ:=aio) (af adv (af aw0 ao)) ba (by kernel_rfl) (fn:=Tryz.f116) (c:=qg Tryz.f116) (by kernel_rfl) (by kernel_rfl) (by kernel_rfl) gj aif (aa7 []) (by kernel_rfl) (by kernel_rfl) (by kernel_rfl) (by decide) (by kernel_rfl) (fun x y h1 h2 h3=>Eq.mp (by kernel_rfl) (aje x h1 h2 h3))
def jn(p:List Int):Int:=p.foldl (fun n k=>mxR n (k+1)) 0
theorem btz{p:List Int}{i:Int}(i0:0<=i)(i1:i<p.length):jn (p.take (i+1).toNat)=mxR (jn (p.take i.toNat)) (p.getD i.toNat 0+1):=by rw[ii p 0 i0 i1];unfold jn;rw[a3j];rfl
def gi:Ct:=⟨[(.sl (.int .i64))],[false],fun x=>[x.1.length<=1099511627776,bj x.1 1099511627776=true],[(false,(.fz (.int .i64)))],fun x=>(jn x.1,()),false,none⟩
def ahj:Ann:=(.s .n (.s .n (.s (.s .n (.l [(3,(.d (.int .i64))),(8,(.d (.int .i64)))] [] [6,7] .n)) .n)))
def uj(p:List Int)(K:Int×Unit->Prop):Prop:=(bc (S:=bu1) (fun s=>(fun next=>((inK .i64 s.1.1)->((inK .i64 s.1.2.1)->(cnd (decide (s.1.2.1<(p.length:Int))) ((0<=s.1.2.1)/\((s.1.2.1<(p.length:Int))/\((inK .i64 ((p.getD s.1.2.1.toNat 0)+1))/\((inK .i64 (s.1.2.1+1))/\(next (((mxR s.1.1 ((p.getD s.1.2.1.toNat 0)+1)),((s.1.2.1+1),())),())))))) (K (s.1.1,()))))))) ((0,(0,())),()))
theorem ai9(p:List Int)(hok:ab (okL gi.args (p,())))(hpre:ab (gi.pre (p,()))):uj p (fun r=>r=gi.res (p,())):=by
 simp only[gi,okL,T.oks,T.ok,ap,ab,a0e,a0b,a0h]at hok hpre
 try dsimp only[T.den]at hok hpre
 unfold uj;obtain⟨hl,hw⟩:=hpre;clear hok;refine bz (fun (s:bu1)=>0<=s.1.2.1/\s.1.2.1<=p.length/\s.1.1=jn (p.take s.1.2.1.toNat)) (fun (s:bu1)=>(p.length-s.1.2.1).toNat) ?_ ⟨by simp,by simp,rfl⟩;rintro⟨⟨n,i,_⟩,_⟩ next ⟨i0,i1,hq⟩ hn _ _
 try dsimp only at i0 i1 hq hn⊢
 refine al (fun hc=>?_) (fun hc=>?_)
 ·have hk:=iv.1 hw i i0 hc;refine⟨i0,hc,by rw[aj];(try dsimp only);omega,by rw[aj];(try dsimp only);omega,hn _ ⟨by dsimp only;omega,by dsimp only;omega,?_⟩ (by dsimp only;omega)⟩
  try dsimp only
  rw[btz i0 hc,hq]
 ·simp only[gi];rw[hq,jr _ (by omega)]
theorem y8:bn Tryz.prog 117 gi:=ctb ao ba 117 Tryz.f117 gi ahj [] (by kernel_rfl) rfl (fun x K=>uj x.1 K) (fun _ _=>by kernel_rfl) (fun x h1 h2=>ai9 x.1 h1 h2)
def uo(p q:ae):Int:=if (p.2.length:Int)-q.2.length≠0 then (p.2.length:Int)-q.2.length else gf p.2 q.2
def ir:Ct:=⟨[aq,aq],[true,true],fun x=>[x.1.2.length<=1000000,x.2.1.2.length<=1000000],[(false,(.fz (.int .i64)))],fun x=>(uo x.1 x.2.1,()),false,none⟩
def yn(p:ae)(q:ae)(K:Int×Unit->Prop):Prop:=((inK .i64 ((p.2.length:Int)-(q.2.length:Int)))/\(cnd (((p.2.length:Int)-(q.2.length:Int)) != 0) (K (((p.2.length:Int)-(q.2.length:Int)),())) (K ((gf p.2 q.2),()))))
theorem an6(p:ae)(q:ae)(hok:ab (okL ir.args (p,q,())))(hpre:ab (ir.pre (p,q,()))):yn p q (fun r=>r=ir.res (p,q,())):=by
 simp only[ir,okL,T.oks,T.ok,ap,ab,a0e,a0b,a0h]at hok hpre
 try dsimp only[T.den]at hok hpre
 unfold yn;obtain⟨h1,h2⟩:=hpre;simp only[ir,uo];refine⟨by rw[aj];(try dsimp only);omega,aw (fun h=>?_) (fun h=>?_)⟩
 ·rw[a3y]at h;rw[d0 h]
 ·have h:=a1a.1 h;rw[ds (fun hh=>hh h)]
theorem xf:bn Tryz.prog 118 ir:=ctb (af acs ao) ba 118 Tryz.f118 ir .n [] (by kernel_rfl) rfl (fun x K=>yn x.1 x.2.1 K) (fun _ _=>by kernel_rfl) (fun x h1 h2=>an6 x.1 x.2.1 h1 h2)
def gh(n:Int):List Int:=dv n.toNat fun i=>i
theorem buc{n:Nat}{i:Int}(i0:0<=i)(i1:i<n):(dv n fun k=>if k<i then k else 0).set i.toNat i=dv n fun k=>if k<i+1 then k else 0:=by
 rw[aah i0 i1];refine dg fun k k0 k1=>?_;by_cases h:k=i
 ·rw[d0 h,d0 (by omega),h]
 ·rw[ds h];by_cases h2:k<i
  ·rw[d0 h2,d0 (by omega)]
  ·rw[ds h2,ds (by omega)]
def o7:Ct:=⟨[(.int .i64)],[false],fun x=>[0<=x.1,x.1<=1099511627776],[(false,(.sl (.fz (.int .i64))))],fun x=>(gh x.1,()),false,none⟩
def au6:Ann:=(.s .n (.s .n (.s (.s .n (.l [(3,(.ref 6 [])),(9,(.d (.int .i64)))] [(6,(.sl (.fz (.int .i64))))] [8] .n)) .n)))
def aep(n:Int)(K:(List Int)×Unit->Prop):Prop:=((0<=n)/\((n<=n)/\((n<=((140737488355328:Nat):Int))/\(((n*((8:Nat):Int))<=((140737488355328:Nat):Int))/\(bc (S:=(buw×buz)) (fun s=>(fun next=>((inK .i64 s.1.2.1)->((T.ok (.sl (.int .i64)) s.2.1)->(cnd (decide (s.1.2.1<(((List.length (List.replicate n.toNat (0:Int))):Nat):Int))) ((0<=s.1.2.1)/\((s.1.2.1<(s.2.1.length:Int))/\((inK .i64 (s.1.2.1+1))/\(next (((),((s.1.2.1+1),())),((List.set s.2.1 s.1.2.1.toNat s.1.2.1),())))))) (K (s.2.1,()))))))) (((),(0,())),((List.replicate n.toNat (0:Int)),())))))))
theorem ax8(n:Int)(hok:ab (okL o7.args (n,())))(hpre:ab (o7.pre (n,()))):aep n (fun r=>r=o7.res (n,())):=by
 simp only[o7,okL,T.oks,T.ok,ap,ab,a0e,a0b,a0h]at hok hpre
 try dsimp only[T.den]at hok hpre
 unfold aep;obtain⟨n0,n1⟩:=hpre;refine⟨n0,a0r _,by omega,by omega,?_⟩;rw[ahu,br];refine zq (n:=(n.toNat:Int)) (fun i=>dv n.toNat fun k=>if k<i then k else 0) (by omega) (dg fun k k0 _=>by rw[ds (by omega)]) ?_ ?_
 ·intro i next i0 i1 hn _ _
  try dsimp only at hn⊢
  rw[←buc i0 i1]at hn;exact al (fun _=>⟨i0,by rw[br];exact i1,by rw[aj];(try dsimp only);omega,hn⟩) (fun h=>absurd i1 h)
 ·intro next _ _
  refine al (fun h=>absurd h (a18 _)) (fun _=>?_);simp only[o7,gh];exact congrArg (fun z=>(z,())) (dg fun k _ k1=>by rw[d0 k1])
theorem ajt:bn Tryz.prog 119 o7:=ctb ao ba 119 Tryz.f119 o7 au6 [] (by kernel_rfl) rfl (fun x K=>aep x.1 K) (fun _ _=>by kernel_rfl) (fun x h1 h2=>ax8 x.1 h1 h2)
def pj:Ct:=⟨[(.int .i64)],[false],fun x=>[0<=x.1,x.1<=1099511627776],[(false,(.sl (.fz (.int .i64))))],fun x=>(gh x.1,()),false,none⟩
def ade(n:Int)(K:(List Int)×Unit->Prop):Prop:=((0<=n)/\((n<=1099511627776)/\(K ((gh n),()))))
theorem av5(n:Int)(hok:ab (okL pj.args (n,())))(hpre:ab (pj.pre (n,()))):ade n (fun r=>r=pj.res (n,())):=by
 simp only[pj,okL,T.oks,T.ok,ap,ab,a0e,a0b,a0h]at hok hpre
 try dsimp only[T.den]at hok hpre
 unfold ade;exact⟨hpre.1,hpre.2,rfl⟩
theorem aid:bn Tryz.prog 112 pj:=ctb (af ajt ao) ba 112 Tryz.f112 pj .n [] (by kernel_rfl) rfl (fun x K=>ade x.1 K) (fun _ _=>by kernel_rfl) (fun x h1 h2=>av5 x.1 h1 h2)
end Go.Bm
