/- What the functions that FnExactSchemaCategory reaches give: for each its contract, what it asks, and the proof. No condition. -/
import Derived.Test.YtgcfmnhbleipdaaGreatDoorTab
import Derived.Shelf.SlSortCmp.NoneTotal
import Derived.Shelf.SlGeneric
import Derived.Ground.SlsfProg
import Derived.LaidEql
import Derived.Stop.Asserts
import Derived.RowKitTokens
import Derived.WalkKit
set_option linter.unusedVariables false
set_option linter.unusedSimpArgs false
namespace Go.Bm
open Go.Proofs
abbrev a0h:=@implies_true
abbrev a2n:=@decide_eq_false_iff_not
abbrev a1f:=@bne_eq_false_iff_eq
abbrev a18:=@beq_eq_false_iff_ne
abbrev a3f:=@bne_iff_ne
abbrev a26:=@Int.lt_irrefl
abbrev a1z:=@Int.toNat_of_nonneg
abbrev a4e:=@List.mem_filter
abbrev a3g:=@List.foldl_append
abbrev a5b:=@List.length_reverse
abbrev a1v:=@eq_of_beq
abbrev a4z:=@List.getD_cons_succ
abbrev a5c:=@List.pairwise_append
abbrev a5d:=@List.pairwise_singleton
abbrev br7:Type:=((Int×((List Int)×((List Int)×((List Int)×(List (List Int))))))×((List (Int×(List Int)))×(List Int)))
abbrev br8:Type:=(((Int×((List Int)×((List Int)×((List (Int×(List Int)))×(List (Int×(List Int)))))))×((Int×((List Int)×((List Int)×((List Int)×(List (List Int))))))×((List Int)×(List (Int×(List Int))))))×Unit)
abbrev br9:Type:=(Int×(List Int))
abbrev bsa:Type:=(Unit×(Int×Unit))
abbrev bsb:Type:=(bsa×((List br9)×Unit))
abbrev bsc:Type:=((List Int)×Unit)
abbrev bsd:Type:=((Int×Unit)×Unit)
abbrev bse:Type:=((List Int)×(List br9))
abbrev bsf:Type:=(Unit×(Unit×bsa))
abbrev bsg:Type:=((Unit×Unit)×((List br9)×Unit))
abbrev bsh:Type:=((Int×(Int×Unit))×Unit)
abbrev bsi:Type:=((Unit×bsa)×(br7×(br7×Unit)))
abbrev bsj:Type:=((List (List Int))×(br9×(br9×Unit)))
abbrev bsk:Type:=((Unit×bsa)×((List Int)×bsc))
abbrev bsl:Type:=((List Int)×br8)
abbrev bsm:Type:=((Unit×bsa)×((List (Int×Int))×bsc))
abbrev bsn:Type:=((List Int)×(Int×(br9×Unit)))
abbrev bso:Type:=(bsa×((List (List Int))×Unit))
abbrev bsp:Type:=((Unit×(Unit×(Unit×(Int×(Int×Unit)))))×(br7×(br7×bsc)))
abbrev bsq:Type:=(Unit×(Int×(Unit×Unit)))
abbrev bsr:Type:=((Unit×(Unit×Unit))×((Int×((List Int)×((List Int)×((List br9)×(List br9)))))×((List br9)×Unit)))
abbrev bss:Type:=(bsf×(br7×(br7×bsc)))
set_option maxRecDepth 100000
set_option maxHeartbeats 1000000
def ja:Ct:=⟨[(.int .i64),(.int .i64),(.int .i64)],[false,false,false],fun x=>[],[(false,(.fz .bool))],fun x=>(inR x.1 x.2.1 x.2.2.1,()),false,none⟩
def ac7(n:Int)(low:Int)(high:Int)(K:Bool×Unit->Prop):Prop:=(K (((decide (low<=n))&&(decide (n<=high))),()))
theorem awd(n:Int)(low:Int)(high:Int)(hok:ae (okL ja.args (n,low,high,())))(hpre:ae (ja.pre (n,low,high,()))):ac7 n low high (fun r=>r=ja.res (n,low,high,())):=by
 simp only[ja,okL,T.oks,T.ok,ap,ae,a0e,a0c,a0h]at hok hpre
 try dsimp only[T.den]at hok hpre
 unfold ac7
 grind[cnd,ck,ao,ja,inR]
theorem uh:b8 Tryz.prog 72 ja:=cg (Φ:=lkp []) aq bi (by kernel_rfl) (fn:=Tryz.f72) (c:=bf Tryz.f72) (by kernel_rfl) (by kernel_rfl) (by kernel_rfl) ja rfl .n (cp []) (by kernel_rfl) (by kernel_rfl) (by kernel_rfl) (by decide) (fun x K=>ac7 x.1 x.2.1 x.2.2.1 K) (fun _ _=>by kernel_rfl) (fun x h1 h2=>awd x.1 x.2.1 x.2.2.1 h1 h2)
def bq(s:ac):Int->List Int->Int×Bool
 |n,[]=>(n,true)
 |n,e::r=>if inR e 0 ((s.2.1.length:Int)-1)=true/\s.2.1.getD e.toNat 0=n then bq s (s.2.2.1.getD e.toNat 0) r else (0,false)
def gz:Ct:=⟨[(.pt SchemaT),(.int .i64),(.sl (.int .i64))],[false,false,false],fun x=>[x.1.2.1.length<=x.1.2.2.1.length],[(false,(.fz (.int .i64))),(false,(.fz .bool))],fun x=>((bq x.1 x.2.1 x.2.2.1).1,(bq x.1 x.2.1 x.2.2.1).2,()),false,none⟩
def aju:Ann:=(.s .n (.s (.s .n (.l [(1,(.d (.int .i64))),(12,(.d (.int .i64)))] [] [0,10,11] .n)) .n))
def ws(s:ac)(node:Int)(edges:List Int)(K:Int×Bool×Unit->Prop):Prop:=(bj (S:=bsh) (fun s1=>(fun next=>((inK .i64 s1.1.1)->((inK .i64 s1.1.2.1)->(cnd (decide (s1.1.2.1<(edges.length:Int))) ((0<=s1.1.2.1)/\((s1.1.2.1<(edges.length:Int))/\((inK .i64 ((s.2.1.length:Int)-1))/\((((!(inR (edges.getD s1.1.2.1.toNat 0) 0 ((s.2.1.length:Int)-1)))=false)->(((edges.getD s1.1.2.1.toNat 0)<(s.2.1.length:Int))/\(0<=(edges.getD s1.1.2.1.toNat 0))))/\(cnd ((!(inR (edges.getD s1.1.2.1.toNat 0) 0 ((s.2.1.length:Int)-1)))||((s.2.1.getD (Int.toNat (edges.getD s1.1.2.1.toNat 0)) 0) != s1.1.1)) (K (0,(false,()))) ((0<=(edges.getD s1.1.2.1.toNat 0))/\(((edges.getD s1.1.2.1.toNat 0)<(s.2.2.1.length:Int))/\((inK .i64 (s1.1.2.1+1))/\(next (((s.2.2.1.getD (Int.toNat (edges.getD s1.1.2.1.toNat 0)) 0),((s1.1.2.1+1),())),())))))))))) (K (s1.1.1,(true,())))))))) ((node,(0,())),()))
theorem akq(s:ac)(node:Int)(edges:List Int)(hok:ae (okL gz.args (s,node,edges,())))(hpre:ae (gz.pre (s,node,edges,()))):ws s node edges (fun r=>r=gz.res (s,node,edges,())):=by
 simp only[gz,okL,T.oks,T.ok,ap,ae,a0e,a0c,a0h]at hok hpre
 try dsimp only[T.den]at hok hpre
 unfold ws;refine bw (fun (s1:bsh)=>0<=s1.1.2.1/\s1.1.2.1<=edges.length/\bq s node edges=bq s s1.1.1 (edges.drop s1.1.2.1.toNat)) (fun (s1:bsh)=>(edges.length-s1.1.2.1).toNat) ?_ (by simp);rintro⟨⟨nd,i,_⟩,_⟩ next ⟨h0,h1,h2⟩ hn ha hin
 simp only at h0 h1 h2 hn⊢;refine au (fun hc=>?_) (fun hc=>?_)
 ·rw[mq edges 0 h0 hc]at h2;simp only[bq]at h2;generalize edges.getD i.toNat 0=e at *
  grind[cnd,ck,ao,gz,inR]
 ·rw[pp edges (by omega)]at h2;simp[bq,h2,gz]
theorem akl:b8 Tryz.prog 91 gz:=cg (Φ:=lkp [(72,ja)]) (ai uh aq) bi (by kernel_rfl) (fn:=Tryz.f91) (c:=bf Tryz.f91) (by kernel_rfl) (by kernel_rfl) (by kernel_rfl) gz rfl aju (cp []) (by kernel_rfl) (by kernel_rfl) (by kernel_rfl) (by decide) (fun x K=>ws x.1 x.2.1 x.2.2.1 K) (fun _ _=>by kernel_rfl) (fun x h1 h2=>akq x.1 x.2.1 x.2.2.1 h1 h2)
def bg(s:ac)(p:ab):Int×Bool:=if inR p.1 0 (s.1-1)=true/\p.2.length<=6 then bq s p.1 p.2 else (0,false)
def gx:Ct:=⟨[(.pt SchemaT),ak],[false,true],fun x=>[x.1.2.1.length<=x.1.2.2.1.length,inK .i64 (x.1.1-1)],[(false,(.fz (.int .i64))),(false,(.fz .bool))],fun x=>((bg x.1 x.2.1).1,(bg x.1 x.2.1).2,()),false,none⟩
def aoi:FuncId->Option Ct:=lkp [(91,gz),(72,ja)]
def zt(s:ac)(p:ab)(K:Int×Bool×Unit->Prop):Prop:=((inK .i64 (s.1-1))/\(cnd ((!(inR p.1 0 (s.1-1)))||(decide (6<(p.2.length:Int)))) (K (0,(false,()))) ((s.2.1.length<=s.2.2.1.length)/\(K ((bq s p.1 p.2).1,((bq s p.1 p.2).2,()))))))
theorem ap6(s:ac)(p:ab)(hok:ae (okL gx.args (s,p,())))(hpre:ae (gx.pre (s,p,()))):zt s p (fun r=>r=gx.res (s,p,())):=by
 simp only[gx,okL,T.oks,T.ok,ap,ae,a0e,a0c,a0h]at hok hpre
 try dsimp only[T.den]at hok hpre
 unfold zt;simp only[gx,bg]
 grind[cnd,ck,ao]
theorem og:b8 Tryz.prog 74 gx:=cg (Φ:=aoi) (ai akl (ai uh aq)) bi (by kernel_rfl) (fn:=Tryz.f74) (c:=bf Tryz.f74) (by kernel_rfl) (by kernel_rfl) (by kernel_rfl) gx rfl .n (cp [(1,15)]) (by kernel_rfl) (by kernel_rfl) (by kernel_rfl) (by decide) (fun x K=>zt x.1 x.2.1 K) (fun _ _=>by kernel_rfl) (fun x h1 h2=>ap6 x.1 x.2.1 h1 h2)
def me:Ct:=⟨[(.sl (.int .i64)),(.int .i64)],[false,false],fun x=>[inK .i64 (x.2.1-1)],[(false,(.fz .bool))],fun x=>(bz x.1 x.2.1,()),false,none⟩
def avc:Ann:=(.s .n (.s (.s .n (.l [(9,(.d (.int .i64)))] [] [1,7,8] .n)) .n))
def afb(list:List Int)(n:Int)(K:Bool×Unit->Prop):Prop:=(bj (S:=bsd) (fun s=>(fun next=>((inK .i64 s.1.1)->(cnd (decide (s.1.1<(list.length:Int))) ((0<=s.1.1)/\((s.1.1<(list.length:Int))/\((inK .i64 (n-1))/\(cnd (!(inR (list.getD s.1.1.toNat 0) 0 (n-1))) (K (false,())) ((inK .i64 (s.1.1+1))/\(next (((s.1.1+1),()),()))))))) (K (true,())))))) ((0,()),()))
theorem ayg(list:List Int)(n:Int)(hok:ae (okL me.args (list,n,())))(hpre:ae (me.pre (list,n,()))):afb list n (fun r=>r=me.res (list,n,())):=by
 simp only[me,okL,T.oks,T.ok,ap,ae,a0e,a0c,a0h]at hok hpre
 try dsimp only[T.den]at hok hpre
 unfold afb;refine bw (fun (s:bsd)=>0<=s.1.1/\s.1.1<=list.length/\bz list n=bz (list.drop s.1.1.toNat) n) (fun (s:bsd)=>(list.length-s.1.1).toNat) ?_ (by simp);rintro⟨⟨i,_⟩,_⟩ next ⟨h0,h1,h2⟩ hn hin
 simp only at h0 h1 h2 hn⊢;refine au (fun hc=>?_) (fun hc=>?_)
 ·rw[mq list 0 h0 hc]at h2;simp only[bz,a3u]at h2
  grind[cnd,ck,ao,me,bz]
 ·rw[pp list (by omega)]at h2
  grind[cnd,ck,ao,me,bz]
theorem ajt:b8 Tryz.prog 73 me:=cg (Φ:=lkp [(72,ja)]) (ai uh aq) bi (by kernel_rfl) (fn:=Tryz.f73) (c:=bf Tryz.f73) (by kernel_rfl) (by kernel_rfl) (by kernel_rfl) me rfl avc (cp []) (by kernel_rfl) (by kernel_rfl) (by kernel_rfl) (by decide) (fun x K=>afb x.1 x.2.1 K) (fun _ _=>by kernel_rfl) (fun x h1 h2=>ayg x.1 x.2.1 h1 h2)
def bfn(s:ac)(p q:ab):Bool:=(bg s p).2&&(bg s q).2&&decide (p.1=q.1)&&decide ((bg s p).1=(bg s q).1)
def vy(s:ac):List ab->List ab->Bool
 |p::l,q::r=>bfn s p q&&vy s l r
 |_,_=>true
def bo(s:ac):Bool:=inR s.1 0 8&&decide (s.2.1.length<=8)&&decide (s.2.2.1.length=s.2.1.length)&&bz s.2.1 s.1&&bz s.2.2.1 s.1&&decide (s.2.2.2.1.length<=8)&&decide (s.2.2.2.2.length=s.2.2.2.1.length)&&vy s s.2.2.2.1 s.2.2.2.2
def d9:Ct:=⟨[(.pt SchemaT)],[false],fun x=>[],[(false,(.fz .bool))],fun x=>(bo x.1,()),false,none⟩
def ah0:Ann:=(.s .n (.s .n (.s .n (.s (.s .n (.l [(85,(.d (.int .i64)))] [] [0,83,84] .n)) .n))))
def ah7:FuncId->Option Ct:=lkp [(74,gx),(72,ja),(73,me)]
def up(s:ac)(K:Bool×Unit->Prop):Prop:=((((((!(inR s.1 0 8))||(decide (8<(s.2.1.length:Int))))||((s.2.2.1.length:Int) != (s.2.1.length:Int)))=false)->(inK .i64 (s.1-1)))/\(((((((!(inR s.1 0 8))||(decide (8<(s.2.1.length:Int))))||((s.2.2.1.length:Int) != (s.2.1.length:Int)))||(!(bz s.2.1 s.1)))=false)->(inK .i64 (s.1-1)))/\(cnd (((((!(inR s.1 0 8))||(decide (8<(s.2.1.length:Int))))||((s.2.2.1.length:Int) != (s.2.1.length:Int)))||(!(bz s.2.1 s.1)))||(!(bz s.2.2.1 s.1))) (K (false,())) (cnd ((decide (8<(s.2.2.2.1.length:Int)))||((s.2.2.2.2.length:Int) != (s.2.2.2.1.length:Int))) (K (false,())) (bj (S:=bsd) (fun s1=>(fun next=>((inK .i64 s1.1.1)->(cnd (decide (s1.1.1<(s.2.2.2.1.length:Int))) ((0<=s1.1.1)/\((s1.1.1<(s.2.2.2.1.length:Int))/\((0<=s1.1.1)/\((s1.1.1<(s.2.2.2.2.length:Int))/\((s.2.1.length<=s.2.2.1.length)/\((inK .i64 (s.1-1))/\((s.2.1.length<=s.2.2.1.length)/\((inK .i64 (s.1-1))/\(cnd ((((!(bg s (s.2.2.2.1.getD s1.1.1.toNat (0,[]))).2)||(!(bg s (s.2.2.2.2.getD s1.1.1.toNat (0,[]))).2))||((s.2.2.2.1.getD s1.1.1.toNat (0,[])).1 != (s.2.2.2.2.getD s1.1.1.toNat (0,[])).1))||((bg s (s.2.2.2.1.getD s1.1.1.toNat (0,[]))).1 != (bg s (s.2.2.2.2.getD s1.1.1.toNat (0,[]))).1)) (K (false,())) ((inK .i64 (s1.1.1+1))/\(next (((s1.1.1+1),()),())))))))))))) (K (true,())))))) ((0,()),()))))))
theorem ajk(s:ac)(hok:ae (okL d9.args (s,())))(hpre:ae (d9.pre (s,()))):up s (fun r=>r=d9.res (s,())):=by
 simp only[d9,okL,T.oks,T.ok,ap,ae,a0e,a0c,a0h]at hok hpre
 try dsimp only[T.den]at hok hpre
 unfold up;refine⟨by grind[cnd,ck,ao,inR],by grind[cnd,ck,ao,inR],bd (fun hc=>?_) (fun hc=>bd (fun hd=>?_) (fun hd=>?_))⟩
 ·grind[cnd,ck,ao,d9,bo]
 ·grind[cnd,ck,ao,d9,bo]
 have he:bo s=vy s s.2.2.2.1 s.2.2.2.2:=by grind[cnd,ck,ao,bo]
 simp only[d9,he];simp only[inR,a2a,a2b,a0a,a06,a2n,a1f]at hc hd;refine bw (fun (s1:bsd)=>0<=s1.1.1/\s1.1.1<=s.2.2.2.1.length/\vy s s.2.2.2.1 s.2.2.2.2=vy s (s.2.2.2.1.drop s1.1.1.toNat) (s.2.2.2.2.drop s1.1.1.toNat)) (fun (s1:bsd)=>(s.2.2.2.1.length-s1.1.1).toNat) ?_ (by simp);rintro⟨⟨i,_⟩,_⟩ next ⟨h0,h1,h2⟩ hn hin
 simp only at h0 h1 h2 hn⊢;refine au (fun hx=>?_) (fun hx=>?_)
 ·rw[mq s.2.2.2.1 (0,[]) h0 hx,mq s.2.2.2.2 (0,[]) h0 (by omega)]at h2;simp only[vy,bfn]at h2;generalize s.2.2.2.1.getD i.toNat (0,[])=p at *;generalize s.2.2.2.2.getD i.toNat (0,[])=q at *;refine⟨by omega,by omega,by omega,by omega,by omega,by rw[ao];(try dsimp only);omega,by omega,by rw[ao];(try dsimp only);omega,bd (fun hy=>?_) (fun hy=>?_)⟩
  ·grind[cnd,ck,ao]
  ·grind[cnd,ck,ao]
 ·rw[pp s.2.2.2.1 (by omega)]at h2;simp[vy,h2]
theorem ah3:b8 Tryz.prog 45 d9:=cg (Φ:=ah7) (ai og (ai uh (ai ajt aq))) bi (by kernel_rfl) (fn:=Tryz.f45) (c:=bf Tryz.f45) (by kernel_rfl) (by kernel_rfl) (by kernel_rfl) d9 rfl ah0 (cp [(1,51),(3,19)]) (by kernel_rfl) (by kernel_rfl) (by kernel_rfl) (by decide) (fun x K=>up x.1 K) (fun _ _=>by kernel_rfl) (fun x h1 h2=>ajk x.1 h1 h2)
def mb:Ct:=⟨[(.sl (.int .i64))],[false],fun x=>[x.1.length<=1099511627776],[(false,(.sl (.fz (.int .i64))))],fun x=>(x.1,()),false,none⟩
def ag9(list:List Int)(K:(List Int)×Unit->Prop):Prop:=((eg 0 list.length 8)/\(K (list,())))
theorem bb7(list:List Int)(hok:ae (okL mb.args (list,())))(hpre:ae (mb.pre (list,()))):ag9 list (fun r=>r=mb.res (list,())):=by
 simp only[mb,okL,T.oks,T.ok,ap,ae,a0e,a0c,a0h]at hok hpre
 try dsimp only[T.den]at hok hpre
 unfold ag9;have hl:list.length<=1099511627776:=hpre;exact⟨da (by omega),rfl⟩
theorem ri:b8 Tryz.prog 77 mb:=cg (Φ:=lkp []) aq bi (by kernel_rfl) (fn:=Tryz.f77) (c:=bf Tryz.f77) (by kernel_rfl) (by kernel_rfl) (by kernel_rfl) mb rfl .n (cp []) (by kernel_rfl) (by kernel_rfl) (by kernel_rfl) (by decide) (fun x K=>ag9 x.1 K) (fun _ _=>by kernel_rfl) (fun x h1 h2=>bb7 x.1 h1 h2)
def mg:Ct:=⟨[(.sl (.int .i64))],[false],fun x=>[x.1.length<=1099511627776],[(false,(.sl (.fz (.int .i64))))],fun x=>(x.1,()),false,none⟩
def afg(list:List Int)(K:(List Int)×Unit->Prop):Prop:=((eg 0 list.length 8)/\(K (list,())))
theorem ayk(list:List Int)(hok:ae (okL mg.args (list,())))(hpre:ae (mg.pre (list,()))):afg list (fun r=>r=mg.res (list,())):=by
 simp only[mg,okL,T.oks,T.ok,ap,ae,a0e,a0c,a0h]at hok hpre
 try dsimp only[T.den]at hok hpre
 unfold afg;have hl:list.length<=1099511627776:=hpre;exact⟨da (by omega),rfl⟩
theorem zb:b8 Tryz.prog 58 mg:=cg (Φ:=lkp []) aq bi (by kernel_rfl) (fn:=Tryz.f58) (c:=bf Tryz.f58) (by kernel_rfl) (by kernel_rfl) (by kernel_rfl) mg rfl .n (cp []) (by kernel_rfl) (by kernel_rfl) (by kernel_rfl) (by decide) (fun x K=>afg x.1 K) (fun _ _=>by kernel_rfl) (fun x h1 h2=>ayk x.1 h1 h2)
structure PthsR (l:List ab):Prop where
 n:l.length<=1000000
 e:∀p∈l,p.2.length<=1000000
def jy:Ct:=⟨[(.sl ak)],[false],fun x=>[PthsR x.1],[(false,(.sl aie))],fun x=>(x.1,()),false,none⟩
def amq:Ann:=(.s .n (.s .n (.s (.s .n (.l [(3,(.ref 800003 [])),(4,(.d (.int .i64)))] [(800003,(.sl (.p (.fz (.int .i64)) (.sl (.fz (.int .i64))))))] [0] .n)) .n)))
def yj(list:List ab)(K:(List ab)×Unit->Prop):Prop:=(bj (S:=bsb) (fun s=>(fun next=>((inK .i64 s.1.2.1)->((T.ok (.sl ak) s.2.1)->(cnd (decide (s.1.2.1<(list.length:Int))) ((0<=s.1.2.1)/\((s.1.2.1<(list.length:Int))/\((0<=s.1.2.1)/\((s.1.2.1<(list.length:Int))/\(((List.length (list.getD s.1.2.1.toNat (0,[])).2)<=1099511627776)/\((eg s.2.1.length (List.length ((list.getD s.1.2.1.toNat (0,[]))::([]:List br9))) 32)/\((inK .i64 (s.1.2.1+1))/\(next (((),((s.1.2.1+1),())),((s.2.1++((list.getD s.1.2.1.toNat (0,[]))::([]:List br9))),())))))))))) (K (s.2.1,()))))))) (((),(0,())),(([]:List br9),())))
theorem ant(list:List ab)(hok:ae (okL jy.args (list,())))(hpre:ae (jy.pre (list,()))):yj list (fun r=>r=jy.res (list,())):=by
 simp only[jy,okL,T.oks,T.ok,ap,ae,a0e,a0c,a0h]at hok hpre
 try dsimp only[T.den]at hok hpre
 unfold yj;have hP:PthsR list:=hpre;have hn:=hP.n;refine bw (fun (s:bsb)=>0<=s.1.2.1/\s.1.2.1<=list.length/\s.2.1=list.take s.1.2.1.toNat) (fun (s:bsb)=>(list.length-s.1.2.1).toNat) ?_ ⟨by simp,by simp,rfl⟩;rintro⟨⟨_,i,_⟩,out,_⟩ next ⟨i0,i1,q⟩ hnx
 intros
 try dsimp only at i0 i1 q hnx⊢
 subst q;refine au (fun hi=>?_) (fun hi=>?_)
 ·have he:=hP.e _ (ii list (0,[]) i0 hi);have hl:(list.take i.toNat).length=i.toNat:=by rw[a1c];omega
  have ht:=jz list (0,[]) i0 hi;exact⟨i0,hi,i0,hi,by omega,da (by rw[hl];simp only[a0l,a0p];omega),by rw[ao];(try dsimp only);omega,hnx _ ⟨by dsimp only;omega,by dsimp only;omega,ht.symm⟩ (by dsimp only;omega)⟩
 ·simp only[jy];rw[ng list (by omega)]
theorem amk:b8 Tryz.prog 42 jy:=cg (Φ:=lkp [(58,mg)]) (ai zb aq) bi (by kernel_rfl) (fn:=Tryz.f42) (c:=bf Tryz.f42) (by kernel_rfl) (by kernel_rfl) (by kernel_rfl) jy rfl amq (cp [(5,512)]) (by kernel_rfl) (by kernel_rfl) (by kernel_rfl) (by decide) (fun x K=>yj x.1 K) (fun _ _=>by kernel_rfl) (fun x h1 h2=>ant x.1 h1 h2)
def ma:Ct:=⟨[(.sl ak)],[false],fun x=>[PthsR x.1],[(false,(.sl aie))],fun x=>(x.1,()),false,none⟩
def ap5:Ann:=(.s .n (.s .n (.s (.s .n (.l [(3,(.ref 800003 [])),(9,(.d (.int .i64)))] [(800003,(.sl (.p (.fz (.int .i64)) (.sl (.fz (.int .i64))))))] [7,8] .n)) .n)))
def aar(list:List ab)(K:(List ab)×Unit->Prop):Prop:=(bj (S:=bsb) (fun s=>(fun next=>((inK .i64 s.1.2.1)->((T.ok (.sl ak) s.2.1)->(cnd (decide (s.1.2.1<(list.length:Int))) ((0<=s.1.2.1)/\((s.1.2.1<(list.length:Int))/\(((List.length (list.getD s.1.2.1.toNat (0,[])).2)<=1099511627776)/\((eg s.2.1.length (List.length ((list.getD s.1.2.1.toNat (0,[]))::([]:List br9))) 32)/\((inK .i64 (s.1.2.1+1))/\(next (((),((s.1.2.1+1),())),((s.2.1++((list.getD s.1.2.1.toNat (0,[]))::([]:List br9))),())))))))) (K (s.2.1,()))))))) (((),(0,())),(([]:List br9),())))
theorem aq9(list:List ab)(hok:ae (okL ma.args (list,())))(hpre:ae (ma.pre (list,()))):aar list (fun r=>r=ma.res (list,())):=by
 simp only[ma,okL,T.oks,T.ok,ap,ae,a0e,a0c,a0h]at hok hpre
 try dsimp only[T.den]at hok hpre
 unfold aar;have hP:PthsR list:=hpre;have hn:=hP.n;refine bw (fun (s:bsb)=>0<=s.1.2.1/\s.1.2.1<=list.length/\s.2.1=list.take s.1.2.1.toNat) (fun (s:bsb)=>(list.length-s.1.2.1).toNat) ?_ ⟨by simp,by simp,rfl⟩;rintro⟨⟨_,i,_⟩,out,_⟩ next ⟨i0,i1,q⟩ hnx
 intros
 try dsimp only at i0 i1 q hnx⊢
 subst q;refine au (fun hi=>?_) (fun hi=>?_)
 ·have he:=hP.e _ (ii list (0,[]) i0 hi);have hl:(list.take i.toNat).length=i.toNat:=by rw[a1c];omega
  have ht:=jz list (0,[]) i0 hi;exact⟨i0,hi,by omega,da (by rw[hl];simp only[a0l,a0p];omega),by rw[ao];(try dsimp only);omega,hnx _ ⟨by dsimp only;omega,by dsimp only;omega,ht.symm⟩ (by dsimp only;omega)⟩
 ·simp only[ma];rw[ng list (by omega)]
theorem apy:b8 Tryz.prog 47 ma:=cg (Φ:=lkp [(77,mb)]) (ai ri aq) bi (by kernel_rfl) (fn:=Tryz.f47) (c:=bf Tryz.f47) (by kernel_rfl) (by kernel_rfl) (by kernel_rfl) ma rfl ap5 (cp [(5,506)]) (by kernel_rfl) (by kernel_rfl) (by kernel_rfl) (by decide) (fun x K=>aar x.1 K) (fun _ _=>by kernel_rfl) (fun x h1 h2=>aq9 x.1 h1 h2)
def fu:List Int->List Int->Int
 |[],[]=>0
 |[],_::_=>-1
 |_::_,[]=>1
 |x::a,y::b=>if x=y then fu a b else if x<y then -1 else 1
theorem ajn{a b:List Int}:fu a b=0<->a=b:=by
 induction a generalizing b with
 |nil=>cases b <;> simp[fu]
 |cons x a ih=>cases b with
  |nil=>simp[fu]
  |cons y b=>
   simp only[fu,a0i];by_cases h:x=y
   ·rw[d0 h,ih];simp[h]
   ·rw[ds h];split <;> simp[h]
def gk:Ct:=⟨[(.sl (.int .i64)),(.sl (.int .i64))],[false,false],fun x=>[],[(false,(.fz (.int .i64)))],fun x=>(fu x.1 x.2.1,()),false,none⟩
def atn:Ann:=(.s .n (.s (.s .n (.l [(8,(.d (.int .i64)))] [] [0,1,7] .n)) .n))
def acx(a:List Int)(b:List Int)(K:Int×Unit->Prop):Prop:=(bj (S:=bsd) (fun s=>(fun next=>((inK .i64 s.1.1)->(cnd (decide (s.1.1<(a.length:Int))) (cnd (s.1.1==(b.length:Int)) (K (1,())) ((0<=s.1.1)/\((s.1.1<(a.length:Int))/\((0<=s.1.1)/\((s.1.1<(b.length:Int))/\(cnd ((a.getD s.1.1.toNat 0) != (b.getD s.1.1.toNat 0)) ((0<=s.1.1)/\((s.1.1<(a.length:Int))/\((0<=s.1.1)/\((s.1.1<(b.length:Int))/\(cnd (decide ((a.getD s.1.1.toNat 0)<(b.getD s.1.1.toNat 0))) (K ((-1),())) (K (1,()))))))) ((inK .i64 (s.1.1+1))/\(next (((s.1.1+1),()),()))))))))) (cnd (decide ((a.length:Int)<(b.length:Int))) (K ((-1),())) (K (0,()))))))) ((0,()),()))
theorem awi(a:List Int)(b:List Int)(hok:ae (okL gk.args (a,b,())))(hpre:ae (gk.pre (a,b,()))):acx a b (fun r=>r=gk.res (a,b,())):=by
 simp only[gk,okL,T.oks,T.ok,ap,ae,a0e,a0c,a0h]at hok hpre
 try dsimp only[T.den]at hok hpre
 unfold acx;have ha:a.length<=140737488355328:=by simp only[ck]at hok;omega
 clear hok;refine m8 (n:=a.length) (fun i=>i<=b.length/\fu a b=fu (a.drop i.toNat) (b.drop i.toNat)) (by omega) ⟨by omega,by simp⟩ ?_ ?_
 ·intro i next i0 i1 hP hn hin
  obtain⟨hb,hP⟩:=hP;rw[mq a 0 i0 i1]at hP;refine au (fun _=>bd (fun h=>?_) (fun h=>?_)) (fun h=>absurd i1 h)
  ·rw[a0t]at h;rw[pp b (by dsimp only at h;omega)]at hP;simp only[gk,hP,fu]
  ·rw[a18]at h
   try dsimp only at h⊢
   rw[mq b 0 i0 (by omega)]at hP;simp only[fu]at hP;have hiK:inK .i64 (i+1):=by rw[ao];(try dsimp only);omega
   refine⟨i0,i1,i0,by omega,bd (fun h1=>?_) (fun h1=>?_)⟩
   ·rw[a3f]at h1;rw[ds h1]at hP;refine⟨i0,i1,i0,by omega,au (fun h2=>?_) (fun h2=>?_)⟩
    ·rw[d0 h2]at hP;simp only[gk,hP]
    ·rw[ds h2]at hP;simp only[gk,hP]
   ·rw[a1f]at h1;rw[d0 h1]at hP;exact⟨hiK,hn ⟨by omega,hP⟩⟩
 ·intro next hP hin
  obtain⟨hb,hP⟩:=hP;rw[pp a (a0r _)]at hP;refine au (fun h=>absurd h (by dsimp only;omega)) (fun _=>au (fun h=>?_) (fun h=>?_))
  ·rw[mq b 0 (by omega) h]at hP;simp only[gk,hP,fu]
  ·rw[pp b (by omega)]at hP;simp only[gk,hP,fu]
theorem abk:b8 Tryz.prog 106 gk:=cg (Φ:=lkp []) aq bi (by kernel_rfl) (fn:=Tryz.f106) (c:=bf Tryz.f106) (by kernel_rfl) (by kernel_rfl) (by kernel_rfl) gk rfl atn (cp [(6,9),(7,9)]) (by kernel_rfl) (by kernel_rfl) (by kernel_rfl) (by decide) (fun x K=>acx x.1 x.2.1 K) (fun _ _=>by kernel_rfl) (fun x h1 h2=>awi x.1 x.2.1 h1 h2)
def sg:Ct:=⟨[(.sl (.int .i64)),(.sl (.int .i64))],[false,false],fun x=>[],[(false,(.fz .bool))],fun x=>(eqR (.sl (.int .i64)) x.1 x.2.1,()),false,none⟩
def ai4(a:List Int)(b:List Int)(K:Bool×Unit->Prop):Prop:=(K (((fu a b)==0),()))
theorem bcp(a:List Int)(b:List Int)(hok:ae (okL sg.args (a,b,())))(hpre:ae (sg.pre (a,b,()))):ai4 a b (fun r=>r=sg.res (a,b,())):=by
 simp only[sg,okL,T.oks,T.ok,ap,ae,a0e,a0c,a0h]at hok hpre
 try dsimp only[T.den]at hok hpre
 unfold ai4;have h:=@ajn a b;have h2:(fu a b==0)=eqR (.sl (.int .i64)) a b:=by rw[a4d,a0t,h,e9]
 simp only[sg,h2]
theorem ba5:b8 Tryz.prog 86 sg:=cg (Φ:=lkp [(106,gk)]) (ai abk aq) bi (by kernel_rfl) (fn:=Tryz.f86) (c:=bf Tryz.f86) (by kernel_rfl) (by kernel_rfl) (by kernel_rfl) sg rfl .n (cp []) (by kernel_rfl) (by kernel_rfl) (by kernel_rfl) (by decide) (fun x K=>ai4 x.1 x.2.1 K) (fun _ _=>by kernel_rfl) (fun x h1 h2=>bcp x.1 x.2.1 h1 h2)
structure UfP (j:List Int):Prop where
 le:∀i:Int,0<=i->i<j.length->0<=j.getD i.toNat 0/\j.getD i.toNat 0<=i
def aih:Nat->List Int->Int->List Int×Int
 |0,j,x=>(j,x)
 |n+1,j,x=>if j.getD x.toNat 0=x then (j,x)else aih n (j.set x.toNat (j.getD (j.getD x.toNat 0).toNat 0)) (j.getD (j.getD x.toNat 0).toNat 0)
def c6(j:List Int)(x:Int):List Int×Int:=aih j.length j x
def ang:Nat->List Int->Int->Int
 |0,_,x=>x
 |n+1,j,x=>if j.getD x.toNat 0=x then x else ang n j (j.getD x.toNat 0)
def eh(j:List Int)(x:Int):Int:=ang j.length j x
theorem bjg{j:List Int}(U:UfP j):∀(n:Nat) (x:Int),0<=x->x<j.length->x.toNat<=n->ang (n+1) j x=ang n j x
 |0,x,x0,x1,h=>by have:=U.le x x0 x1;simp only[ang];rw[d0 (by omega)]
 |n+1,x,x0,x1,h=>by
  have:=U.le x x0 x1;show (if j.getD x.toNat 0=x then x else ang (n+1) j (j.getD x.toNat 0))=(if j.getD x.toNat 0=x then x else ang n j (j.getD x.toNat 0));split
  ·rfl
  ·exact bjg U n _ this.1 (by omega) (by omega)
theorem ad3{j:List Int}(U:UfP j){x:Int}(x0:0<=x)(x1:x<j.length):eh j x=if j.getD x.toNat 0=x then x else eh j (j.getD x.toNat 0):=by
 have:=U.le x x0 x1;unfold eh;obtain⟨m,hm⟩:∃m,j.length=m+1:=⟨j.length-1,by omega⟩;rw[hm]
 conv=>lhs;rw[ang]
 split
 ·rfl
 ·rw[bjg U m _ this.1 (by omega) (by omega)]
theorem bb8{j:List Int}{p:Int->Prop}(h:∀x:Int,0<=x->x<j.length->(∀y:Int,0<=y->y<x->p y)->p x){x:Int}(x0:0<=x)(x1:x<j.length):p x:=by
 have key:∀n:Nat,∀x:Int,0<=x->x<j.length->x.toNat<n->p x:=by
  intro n
  induction n with
  |zero=>intro x _ _ hx;omega
  |succ n ih=>intro x x0 x1 hx;exact h x x0 x1 fun y y0 y1=>ih y y0 (by omega) (by omega)
 exact key (x.toNat+1) x x0 x1 (by omega)
theorem ay0{j:List Int}(U:UfP j){x:Int}(x0:0<=x)(x1:x<j.length):0<=eh j x/\eh j x<=x/\j.getD (eh j x).toNat 0=eh j x:=by
 refine bb8 (j:=j) (p:=fun x=>0<=eh j x/\eh j x<=x/\j.getD (eh j x).toNat 0=eh j x) (fun x x0 x1 ih=>?_) x0 x1;have:=U.le x x0 x1;rw[ad3 U x0 x1];split
 ·rename_i h;exact⟨x0,a0r _,h⟩
 ·rename_i h;have hp:=ih _ this.1 (by omega);exact⟨hp.1,by omega,hp.2.2⟩
theorem w9{j:List Int}(U:UfP j){x:Int}(x0:0<=x)(x1:x<j.length)(h:j.getD x.toNat 0=x):eh j x=x:=by rw[ad3 U x0 x1,d0 h]
theorem aui{j:List Int}{x y v:Int}(x0:0<=x)(x1:x<j.length)(y0:0<=y):(j.set x.toNat v).getD y.toNat 0=if y=x then v else j.getD y.toNat 0:=by
 rw[aax _ _ _ _ _ (by omega)];by_cases h:y=x
 ·rw[d0 h,d0 (by rw[h])]
 ·rw[ds h,ds (by omega)]
theorem aeg{j:List Int}(U:UfP j){x v:Int}(x0:0<=x)(x1:x<j.length)(v0:0<=v)(v1:v<=x):UfP (j.set x.toNat v):=by
 refine⟨fun i i0 i1=>?_⟩;rw[a1h]at i1;rw[aui x0 x1 i0];split
 ·omega
 ·exact U.le i i0 i1
theorem bbu{j:List Int}(U:UfP j){x:Int}(x0:0<=x)(x1:x<j.length){y:Int}(y0:0<=y)(y1:y<j.length):eh (j.set x.toNat (j.getD (j.getD x.toNat 0).toNat 0)) y=eh j y:=by
 have hx:=U.le x x0 x1;have hp:=U.le _ hx.1 (by omega);have U':=aeg U x0 x1 hp.1 (by omega);refine bb8 (j:=j) (p:=fun y=>eh (j.set x.toNat (j.getD (j.getD x.toNat 0).toNat 0)) y=eh j y) (fun y y0 y1 ih=>?_) y0 y1;rw[ad3 U' y0 (by rw[a1h];exact y1),aui x0 x1 y0];by_cases h:y=x
 ·subst h;simp only[a00];split
  ·rename_i hq;have:j.getD y.toNat 0=y:=by omega
   rw[w9 U y0 y1 this]
  ·rename_i hq;rw[ih _ hp.1 (by omega)];rw[ad3 U y0 y1];have hne:¬j.getD y.toNat 0=y:=fun e=>hq (by rw[e,e]);rw[ds hne,ad3 U hx.1 (by omega)];split
   ·rename_i he;rw[he];exact w9 U hx.1 (by omega) he
   ·rfl
 ·simp only[ds h];have hy:=U.le y y0 y1;rw[ad3 U y0 y1];split
  ·rfl
  ·exact ih _ hy.1 (by omega)
theorem bcu{j:List Int}(U:UfP j):∀(n:Nat) (j:List Int) (x:Int),UfP j->0<=x->x<j.length->x.toNat<=n->aih (n+1) j x=aih n j x
 |0,j,x,U,x0,x1,h=>by have:=U.le x x0 x1;simp only[aih];rw[d0 (by omega)]
 |n+1,j,x,U,x0,x1,h=>by
  have hx:=U.le x x0 x1;have hp:=U.le _ hx.1 (by omega);show (if j.getD x.toNat 0=x then (j,x)else aih (n+1) (j.set x.toNat (j.getD (j.getD x.toNat 0).toNat 0)) (j.getD (j.getD x.toNat 0).toNat 0))=(if j.getD x.toNat 0=x then (j,x)else aih n (j.set x.toNat (j.getD (j.getD x.toNat 0).toNat 0)) (j.getD (j.getD x.toNat 0).toNat 0));split
  ·rfl
  ·exact bcu U n _ _ (aeg U x0 x1 hp.1 (by omega)) hp.1 (by rw[a1h];omega) (by omega)
theorem bjp{j:List Int}(U:UfP j){x:Int}(x0:0<=x)(x1:x<j.length):c6 j x=if j.getD x.toNat 0=x then (j,x)else c6 (j.set x.toNat (j.getD (j.getD x.toNat 0).toNat 0)) (j.getD (j.getD x.toNat 0).toNat 0):=by
 have hx:=U.le x x0 x1;have hp:=U.le _ hx.1 (by omega);unfold c6;rw[a1h];obtain⟨m,hm⟩:∃m,j.length=m+1:=⟨j.length-1,by omega⟩;rw[hm]
 conv=>lhs;rw[aih]
 split
 ·rfl
 ·rw[bcu U m _ _ (aeg U x0 x1 hp.1 (by omega)) hp.1 (by rw[a1h];omega) (by omega)]
theorem bjh:∀(n:Nat) {j:List Int},UfP j->∀{x:Int},0<=x->x<j.length->x.toNat<n->UfP (c6 j x).1/\(c6 j x).1.length=j.length/\(c6 j x).2=eh j x/\∀y:Int,0<=y->y<j.length->eh (c6 j x).1 y=eh j y
 |0,j,U,x,x0,x1,h=>by omega
 |n+1,j,U,x,x0,x1,h=>by
  have hx:=U.le x x0 x1;have hp:=U.le _ hx.1 (by omega);have U':=aeg U x0 x1 hp.1 (by omega);rw[bjp U x0 x1];split
  ·rename_i he;exact⟨U,rfl,(w9 U x0 x1 he).symm,fun y _ _=>rfl⟩
  ·rename_i he;obtain⟨h1,h2,h3,h4⟩:=bjh n U' hp.1 (by rw[a1h];omega) (by omega);rw[a1h]at h2;refine⟨h1,h2,?_,fun y y0 y1=>?_⟩
   ·rw[h3,bbu U x0 x1 hp.1 (by omega)];rw[ad3 U x0 x1,ds he];by_cases hq:j.getD (j.getD x.toNat 0).toNat 0=j.getD x.toNat 0
    ·rw[hq]
    ·rw[ad3 U hx.1 (by omega),ds hq]
   ·rw[h4 y y0 (by rw[a1h];exact y1),bbu U x0 x1 y0 y1]
theorem ajx{j:List Int}(U:UfP j){x:Int}(x0:0<=x)(x1:x<j.length):UfP (c6 j x).1/\(c6 j x).1.length=j.length/\(c6 j x).2=eh j x/\∀y:Int,0<=y->y<j.length->eh (c6 j x).1 y=eh j y:=bjh (x.toNat+1) U x0 x1 (by omega)
def jo:Wt:=⟨(.sl (.fz (.int .i64))),[(.int .i64)],[false],fun x y=>[UfP x,0<=y.1,y.1<x.length],fun x y=>(c6 x y.1).1,[(false,(.fz (.int .i64)))],fun x y=>((c6 x y.1).2,())⟩
def yo:Ct:=awb jo
def amh:Ann:=(.s .n (.s (.l [(0,(.ref 1000000 [])),(1,(.d (.int .i64)))] [(1000000,(.sl (.fz (.int .i64))))] [] .n) .n))
def ae2(j:List Int)(x:Int)(K:(List Int)->(Int×Unit)->Prop):Prop:=(bj (S:=(bsa×bsc)) (fun s=>(fun next=>((inK .i64 s.1.2.1)->((T.ok (.sl (.int .i64)) s.2.1)->((0<=s.1.2.1)/\((s.1.2.1<(s.2.1.length:Int))/\(cnd ((s.2.1.getD s.1.2.1.toNat 0) != s.1.2.1) ((0<=s.1.2.1)/\((s.1.2.1<(s.2.1.length:Int))/\((0<=(s.2.1.getD s.1.2.1.toNat 0))/\(((s.2.1.getD s.1.2.1.toNat 0)<(s.2.1.length:Int))/\((0<=s.1.2.1)/\((s.1.2.1<(s.2.1.length:Int))/\((0<=s.1.2.1)/\((s.1.2.1<(((List.length (List.set s.2.1 s.1.2.1.toNat (s.2.1.getD (Int.toNat (s.2.1.getD s.1.2.1.toNat 0)) 0))):Nat):Int))/\(next (((),((List.getD (List.set s.2.1 s.1.2.1.toNat (s.2.1.getD (Int.toNat (s.2.1.getD s.1.2.1.toNat 0)) 0)) s.1.2.1.toNat 0),())),((List.set s.2.1 s.1.2.1.toNat (s.2.1.getD (Int.toNat (s.2.1.getD s.1.2.1.toNat 0)) 0)),()))))))))))) (K s.2.1 (s.1.2.1,()))))))))) (((),(x,())),(j,())))
theorem am9(j:List Int)(x:Int)(hok:ae (jo.o.strip.oks j))(hok2:ae (okL jo.as (x,())))(hpre:ae (jo.pre j (x,()))):ae2 j x (fun z r=>z=jo.new j (x,())/\r=jo.res j (x,())):=by
 simp only[jo,O.strip,okL,T.oks,T.ok,ap,ae,a0e,a0c,a0h]at hok hok2 hpre
 try dsimp only[T.den]at hok
 try dsimp only[T.den]at hok2
 try dsimp only[T.den]at hpre
 unfold ae2;obtain⟨U,x0,x1⟩:=hpre;clear hok;refine bw (fun (s:(bsa×bsc))=>UfP s.2.1/\0<=s.1.2.1/\s.1.2.1<s.2.1.length/\c6 s.2.1 s.1.2.1=c6 j x) (fun (s:(bsa×bsc))=>s.1.2.1.toNat) ?_ ⟨U,x0,x1,rfl⟩;rintro⟨⟨_,y,_⟩,l,_⟩ next ⟨V,y0,y1,hr⟩ hn _ _
 try dsimp only at V y0 y1 hr hn⊢
 have hy:=V.le y y0 y1;have hp:=V.le _ hy.1 (by omega);rw[bjp V y0 y1]at hr;refine⟨y0,y1,bd (fun hx=>?_) (fun hx=>?_)⟩
 ·have hne:¬l.getD y.toNat 0=y:=by simpa using hx
  rw[ds hne]at hr;have hs:=@aui l y y (l.getD (l.getD y.toNat 0).toNat 0) y0 y1 y0;rw[d0 rfl]at hs;refine⟨y0,y1,hy.1,by omega,y0,y1,y0,by rw[a1h];exact y1,?_⟩;rw[hs];exact hn _ ⟨aeg V y0 y1 hp.1 (by omega),hp.1,by dsimp only;rw[a1h];omega,hr⟩ (by dsimp only;omega)
 ·have he:l.getD y.toNat 0=y:=by simpa using hx
  rw[d0 he]at hr;exact⟨congrArg Prod.fst hr,congrArg (fun z:List Int×Int=>(z.2,())) hr⟩
theorem aci:b8 Tryz.prog 129 yo:=bf9 (Φ:=lkp []) aq bi (by kernel_rfl) (fn:=Tryz.f129) (c:=bf Tryz.f129) (by kernel_rfl) (by kernel_rfl) (by kernel_rfl) jo amh (cp []) (by kernel_rfl) (by kernel_rfl) (by kernel_rfl) (by decide) (by kernel_rfl) (fun x y h1 h2 h3=>Eq.mp (by kernel_rfl) (am9 x y.1 h1 h2 h3))
def bnb(j:List Int)(a b:Int):List Int:=j.set (mxR a b).toNat (mnR a b)
def xp(j:List Int)(x y:Int):List Int×Bool:=(bnb (c6 (c6 j x).1 y).1 (c6 j x).2 (c6 (c6 j x).1 y).2,(c6 j x).2 != (c6 (c6 j x).1 y).2)
theorem mm_p(a b:Int):(mxR a b=a/\mnR a b=b/\b<=a)\/(mxR a b=b/\mnR a b=a/\a<=b):=by unfold mxR mnR;split <;> split <;> omega
theorem azo{j:List Int}(U:UfP j){m n:Int}(m1:m<j.length)(n0:0<=n)(h:n<=m)(hm:j.getD m.toNat 0=m)(hn:j.getD n.toNat 0=n){y:Int}(y0:0<=y)(y1:y<j.length) :
  eh (j.set m.toNat n) y=if eh j y=m then n else eh j y:=by
 have m0:0<=m:=by omega
 have U':=aeg U m0 m1 n0 h;refine bb8 (j:=j) (p:=fun y=>eh (j.set m.toNat n) y=if eh j y=m then n else eh j y) (fun y y0 y1 ih=>?_) y0 y1;rw[ad3 U' y0 (by rw[a1h];exact y1),aui m0 m1 y0];by_cases e:y=m
 ·subst e;simp only[a00];rw[w9 U y0 y1 hm,d0 rfl];split
  ·rename_i h1;exact h1.symm
  ·rename_i h1;rw[ih n n0 (by omega),w9 U n0 (by omega) hn,ds h1]
 ·simp only[ds e];have hy:=U.le y y0 y1;split
  ·rename_i h1;rw[w9 U y0 y1 h1,ds e]
  ·rename_i h1;rw[ih _ hy.1 (by omega),ad3 U y0 y1,ds h1]
theorem amz{j:List Int}(U:UfP j){x y:Int}(x0:0<=x)(x1:x<j.length)(y0:0<=y)(y1:y<j.length) :
  UfP (xp j x y).1/\(xp j x y).1.length=j.length/\((∀z:Int,0<=z->z<j.length->eh (xp j x y).1 z=if eh j z=eh j x then eh j y else eh j z)\/∀z:Int,0<=z->z<j.length->eh (xp j x y).1 z=if eh j z=eh j y then eh j x else eh j z):=by
 obtain⟨a1,a2,a3,a4⟩:=ajx U x0 x1;obtain⟨b1,b2,b3,b4⟩:=ajx a1 y0 (by omega);have hl:(c6 (c6 j x).1 y).1.length=j.length:=by rw[b2,a2]
 have hr:∀z:Int,0<=z->z<j.length->eh (c6 (c6 j x).1 y).1 z=eh j z:=fun z z0 z1=>by rw[b4 z z0 (by omega),a4 z z0 z1]
 have hx:(c6 j x).2=eh (c6 (c6 j x).1 y).1 x:=by rw[hr x x0 x1,a3]
 have hy:(c6 (c6 j x).1 y).2=eh (c6 (c6 j x).1 y).1 y:=by rw[hr y y0 y1,b3,a4 y y0 y1]
 have px:=ay0 b1 x0 (by omega);have py:=ay0 b1 y0 (by omega);rw[hr x x0 x1]at px;rw[hr y y0 y1]at py;unfold xp bnb;simp only;rw[hx,hy,hr x x0 x1,hr y y0 y1];generalize (c6 (c6 j x).1 y).1=k at *;rcases mm_p (eh j x) (eh j y)with⟨h1,h2,h3⟩|⟨h1,h2,h3⟩
 ·rw[h1,h2];refine⟨aeg b1 px.1 (by omega) py.1 h3,by rw[a1h];exact hl,.inl fun z z0 z1=>?_⟩;rw[azo b1 (by omega) py.1 h3 px.2.2 py.2.2 z0 (by omega),hr z z0 z1]
 ·rw[h1,h2];refine⟨aeg b1 py.1 (by omega) px.1 h3,by rw[a1h];exact hl,.inr fun z z0 z1=>?_⟩;rw[azo b1 (by omega) px.1 h3 py.2.2 px.2.2 z0 (by omega),hr z z0 z1]
def jm:Wt:=⟨(.sl (.fz (.int .i64))),[(.int .i64),(.int .i64)],[false,false],fun x y=>[UfP x,0<=y.1,y.1<x.length,0<=y.2.1,y.2.1<x.length],fun x y=>(xp x y.1 y.2.1).1,[(false,(.fz .bool))],fun x y=>((xp x y.1 y.2.1).2,())⟩
def ae3:Ct:=awb jm
def aeo(j:List Int)(x:Int)(y:Int)(K:(List Int)->(Bool×Unit)->Prop):Prop:=((UfP j)/\((0<=x)/\((x<(j.length:Int))/\((UfP (c6 j x).1)/\((0<=y)/\((y<(List.length (c6 j x).1:Int))/\((0<=(mxR (c6 j x).2 (c6 (c6 j x).1 y).2))/\(((mxR (c6 j x).2 (c6 (c6 j x).1 y).2)<(((List.length (c6 (c6 j x).1 y).1):Nat):Int))/\(K (List.set (c6 (c6 j x).1 y).1 (Int.toNat (mxR (c6 j x).2 (c6 (c6 j x).1 y).2)) (mnR (c6 j x).2 (c6 (c6 j x).1 y).2)) (((c6 j x).2 != (c6 (c6 j x).1 y).2),()))))))))))
theorem anc(j:List Int)(x:Int)(y:Int)(hok:ae (jm.o.strip.oks j))(hok2:ae (okL jm.as (x,y,())))(hpre:ae (jm.pre j (x,y,()))):aeo j x y (fun z r=>z=jm.new j (x,y,())/\r=jm.res j (x,y,())):=by
 simp only[jm,O.strip,okL,T.oks,T.ok,ap,ae,a0e,a0c,a0h]at hok hok2 hpre
 try dsimp only[T.den]at hok
 try dsimp only[T.den]at hok2
 try dsimp only[T.den]at hpre
 unfold aeo;obtain⟨U,x0,x1,y0,y1⟩:=hpre;clear hok;obtain⟨a1,a2,a3,a4⟩:=ajx U x0 x1;obtain⟨b1,b2,b3,b4⟩:=ajx a1 y0 (by omega);have px:=ay0 U x0 x1;have py:=ay0 U y0 y1;rw[←a4 y y0 y1,←b3]at py;rw[←a3]at px;have hm:=mm_p (c6 j x).2 (c6 (c6 j x).1 y).2;exact⟨U,x0,x1,a1,y0,by omega,by omega,by omega,rfl,rfl⟩
theorem ame:b8 Tryz.prog 115 ae3:=bf9 (Φ:=lkp [(129,yo)]) (ai aci aq) bi (by kernel_rfl) (fn:=Tryz.f115) (c:=bf Tryz.f115) (by kernel_rfl) (by kernel_rfl) (by kernel_rfl) jm .n (cp []) (by kernel_rfl) (by kernel_rfl) (by kernel_rfl) (by decide) (by kernel_rfl) (fun x y h1 h2 h3=>Eq.mp (by kernel_rfl) (anc x y.1 y.2.1 h1 h2 h3))
def bnf(l:List (List Int)):Prop:=l.length<=1000000/\∀r∈l,r.length<=1000000
def kbR(l:List (List Int)):List Int:=l.flatMap fun r=>r.map (fun n=>IntKind.wrap .u8 n)++[255]
theorem bp8{α β:Type}(f:α->β)(l:List α):(l.flatMap fun n=>[f n])=l.map f:=by
 induction l with
 |nil=>rfl
 |cons a l ih=>simp only[List.flatMap_cons,a07,ih];rfl
def yu(l:List (List Int)):ByteArray:=ag5 (kbR l)
def wh:Ct:=⟨[(.sl (.sl (.int .i64)))],[false],fun x=>[bnf x.1],[(false,(.fz .str))],fun x=>(yu x.1,()),false,none⟩
def bco:Ann:=(.s .n (.s .n (.s (.s .n (.l [(3,(.ref 800003 [])),(11,(.d (.int .i64)))] [(800003,(.sl (.fz (.int .u8))))] [9,10] (.s .n (.s .n (.s (.s .n (.s (.s .n (.l [(3,(.ref 800003 [])),(17,(.d (.int .i64)))] [(800003,(.sl (.fz (.int .u8))))] [9,10,11,15,16] .n)) .n)) .n))))) .n)))
def alt(lists:List (List Int))(K:ByteArray×Unit->Prop):Prop:=(bj (S:=(bsa×bsc)) (fun s=>(fun next=>((inK .i64 s.1.2.1)->((T.ok (.sl (.int .u8)) s.2.1)->(cnd (decide (s.1.2.1<(lists.length:Int))) ((0<=s.1.2.1)/\((s.1.2.1<(lists.length:Int))/\(bj (S:=(bsa×bsc)) (fun s1=>(fun next1=>((inK .i64 s1.1.2.1)->((T.ok (.sl (.int .u8)) s1.2.1)->(cnd (decide (s1.1.2.1<(List.length (lists.getD s.1.2.1.toNat []):Int))) ((0<=s1.1.2.1)/\((s1.1.2.1<(List.length (lists.getD s.1.2.1.toNat []):Int))/\((eg s1.2.1.length (List.length ((IntKind.wrap .u8 (List.getD (lists.getD s.1.2.1.toNat []) s1.1.2.1.toNat 0))::[])) 1)/\((inK .i64 (s1.1.2.1+1))/\(next1 (((),((s1.1.2.1+1),())),((s1.2.1++((IntKind.wrap .u8 (List.getD (lists.getD s.1.2.1.toNat []) s1.1.2.1.toNat 0))::[])),()))))))) ((eg s1.2.1.length (List.length (255::[])) 1)/\((inK .i64 (s.1.2.1+1))/\(next (((),((s.1.2.1+1),())),((s1.2.1++(255::[])),())))))))))) (((),(0,())),(s.2.1,()))))) (K ((ag5 s.2.1),()))))))) (((),(0,())),([],())))
theorem bfi(lists:List (List Int))(hok:ae (okL wh.args (lists,())))(hpre:ae (wh.pre (lists,()))):alt lists (fun r=>r=wh.res (lists,())):=by
 simp only[wh,okL,T.oks,T.ok,ap,ae,a0e,a0c,a0h]at hok hpre
 try dsimp only[T.den]at hok hpre
 unfold alt;obtain⟨h1,h2⟩:=hpre;clear hok;refine ba2 lists [] (fun r=>r.map (fun n=>IntKind.wrap .u8 n)++[255]) [] 1000001 (fun r hr=>by have:=h2 r hr;simp only[a0q,a0y,a0l,a0p];omega) ?_ ?_
 ·intro i out next i0 i1 hb hn _ _
  refine au (fun _=>?_) (fun h=>absurd i1 h);refine⟨i0,i1,?_⟩;have hl:=h2 _ (ii lists [] i0 i1);simp only[a0q,a0y,a0l,a0p,a0p]at hb
  try dsimp only at hn⊢
  generalize lists.getD i.toNat []=l at hl hb hn⊢;have hle:out.length+l.length<=4000000000000:=by omega
  refine ba2 l 0 (fun n=>[IntKind.wrap .u8 n]) out 1 (fun x _=>a0f _) ?_ ?_
  ·intro j acc next1 j0 j1 hb1 hn1 _ _;simp only[a0l,a0p]at hb1;exact au (fun _=>⟨j0,j1,by simp only[eg,ck,a0l,a0p];omega,by rw[ao];dsimp only;omega,hn1⟩) (fun h=>absurd j1 h)
  ·intro next1 _ _;refine au (fun h=>absurd h (a26 _)) (fun _=>?_);rw[bp8];refine⟨by simp only[eg,ck,a0q,a0y,a0l,a0p];omega,by rw[ao];(try dsimp only);omega,?_⟩;rw[a08];exact hn
 ·intro next _ _
  exact au (fun h=>absurd h (a26 _)) (fun _=>rfl)
theorem bci:b8 Tryz.prog 128 wh:=cg (Φ:=lkp []) aq bi (by kernel_rfl) (fn:=Tryz.f128) (c:=bf Tryz.f128) (by kernel_rfl) (by kernel_rfl) (by kernel_rfl) wh rfl bco (cp []) (by kernel_rfl) (by kernel_rfl) (by kernel_rfl) (by decide) (fun x K=>alt x.1 K) (fun _ _=>by kernel_rfl) (fun x h1 h2=>bfi x.1 h1 h2)
def mj:Ct:=⟨[(.int .i64),(.sl (.int .i64))],[false,false],fun x=>[x.2.1.length<=1000000],[(false,(.fz .str))],fun x=>(yu [[x.1],x.2.1],()),false,none⟩
def adh(start:Int)(edges:List Int)(K:ByteArray×Unit->Prop):Prop:=((bnf ((start::[])::(edges::[])))/\(K ((yu ((start::[])::(edges::[]))),())))
theorem av3(start:Int)(edges:List Int)(hok:ae (okL mj.args (start,edges,())))(hpre:ae (mj.pre (start,edges,()))):adh start edges (fun r=>r=mj.res (start,edges,())):=by
 simp only[mj,okL,T.oks,T.ok,ap,ae,a0e,a0c,a0h]at hok hpre
 try dsimp only[T.den]at hok hpre
 unfold adh;refine⟨⟨by simp,?_⟩,rfl⟩;intro r hr;simp only[a0s,a37,or_false]at hr;rcases hr with rfl|rfl
 ·simp
 ·exact hpre
theorem xw:b8 Tryz.prog 111 mj:=cg (Φ:=lkp [(128,wh)]) (ai bci aq) bi (by kernel_rfl) (fn:=Tryz.f111) (c:=bf Tryz.f111) (by kernel_rfl) (by kernel_rfl) (by kernel_rfl) mj rfl .n (cp []) (by kernel_rfl) (by kernel_rfl) (by kernel_rfl) (by decide) (fun x K=>adh x.1 x.2.1 K) (fun _ _=>by kernel_rfl) (fun x h1 h2=>av3 x.1 x.2.1 h1 h2)
def dh(k:al)(x:Int)(es:List Int):Int:=qh .str (.int .i64) k.1 (yu [[x],es])
def im:Ct:=⟨[(.pt nq),(.int .i64),(.sl (.int .i64))],[false,false,false],fun x=>[x.2.2.1.length<=1000000,0<=dh x.1 x.2.1 x.2.2.1,dh x.1 x.2.1 x.2.2.1<x.1.2.1.length],[(false,(.fz (.int .i64)))],fun x=>(x.1.2.1.getD (dh x.1 x.2.1 x.2.2.1).toNat 0,()),false,none⟩
def vh(k:al)(start:Int)(edges:List Int)(K:Int×Unit->Prop):Prop:=((edges.length<=1000000)/\((0<=(qh T.str (.int .i64) k.1 (yu ((start::[])::(edges::[])))))/\(((qh T.str (.int .i64) k.1 (yu ((start::[])::(edges::[]))))<(k.2.1.length:Int))/\(K ((k.2.1.getD (Int.toNat (qh T.str (.int .i64) k.1 (yu ((start::[])::(edges::[]))))) 0),())))))
theorem akk(k:al)(start:Int)(edges:List Int)(hok:ae (okL im.args (k,start,edges,())))(hpre:ae (im.pre (k,start,edges,()))):vh k start edges (fun r=>r=im.res (k,start,edges,())):=by
 simp only[im,okL,T.oks,T.ok,ap,ae,a0e,a0c,a0h]at hok hpre
 try dsimp only[T.den]at hok hpre
 unfold vh;exact⟨hpre.1,hpre.2.1,hpre.2.2,rfl⟩
theorem uq:b8 Tryz.prog 95 im:=cg (Φ:=lkp [(111,mj)]) (ai xw aq) bi (by kernel_rfl) (fn:=Tryz.f95) (c:=bf Tryz.f95) (by kernel_rfl) (by kernel_rfl) (by kernel_rfl) im rfl .n (cp [(1,12)]) (by kernel_rfl) (by kernel_rfl) (by kernel_rfl) (by decide) (fun x K=>vh x.1 x.2.1 x.2.2.1 K) (fun _ _=>by kernel_rfl) (fun x h1 h2=>akk x.1 x.2.1 x.2.2.1 h1 h2)
def fp:Wc:=⟨(.pt (.sl (.fz (.int .i64)))),1,[(.sl (.int .i64)),.any,(.pt (.int .i64)),(.pt (.pt nq)),(.pt ak)],[false,false,false,false,false],fun x y=>[UfP x,0<=y.2.2.1,y.2.2.1<x.length,y.1.length<=1000000,0<=dh y.2.2.2.1 y.2.2.2.2.1.1 y.1,dh y.2.2.2.1 y.2.2.2.2.1.1 y.1<x.length],fun x y=>(xp x y.2.2.1 (dh y.2.2.2.1 y.2.2.2.2.1.1 y.1)).1⟩
def qp:Ct:=blf fp
def acn:FuncId->Option Ct:=lkp [(115,ae3),(111,mj)]
def vu(box:(List Int))(edges:List Int)(j:Unit)(i:Int)(k:al)(p:ab)(K:(List Int)->Prop):Prop:=((edges.length<=1000000)/\((UfP box)/\((0<=i)/\((i<(box.length:Int))/\((0<=(qh T.str (.int .i64) k.1 (yu ((p.1::[])::(edges::[])))))/\(((qh T.str (.int .i64) k.1 (yu ((p.1::[])::(edges::[]))))<(box.length:Int))/\(K (xp box i (qh T.str (.int .i64) k.1 (yu ((p.1::[])::(edges::[]))))).1)))))))
theorem aek(box:(List Int))(edges:List Int)(j:Unit)(i:Int)(k:al)(p:ab)(hok:ae (fp.o.strip.oks box))(hok2:ae (okL fp.as (edges,j,i,k,p,())))(hpre:ae (fp.pre box (edges,j,i,k,p,()))):vu box edges j i k p (fun z=>z=fp.new box (edges,j,i,k,p,())):=by
 simp only[fp,O.strip,okL,T.oks,T.ok,ap,ae,a0e,a0c,a0h]at hok hok2 hpre
 try dsimp only[T.den]at hok
 try dsimp only[T.den]at hok2
 try dsimp only[T.den]at hpre
 unfold vu;obtain⟨h1,h2,h3,h4,h5,h6⟩:=hpre;exact⟨h4,h1,h2,h3,h5,h6,rfl⟩
theorem p7:b8 Tryz.prog 114 qp:=bmy (Φ:=acn) (ai ame (ai xw aq)) bi (by kernel_rfl) (fn:=Tryz.f114) (c:=bf Tryz.f114) (by kernel_rfl) (by kernel_rfl) (by kernel_rfl) fp .n (cp [(0,11)]) (by kernel_rfl) (by kernel_rfl) (by kernel_rfl) (by kernel_rfl) (by kernel_rfl) (by decide) (by kernel_rfl) (fun x y h1 h2 h3=>Eq.mp (by kernel_rfl) (aek x y.1 y.2.1 y.2.2.1 y.2.2.2.1 y.2.2.2.2.1 h1 h2 h3))
def agt(s:ac)(p:ab)(i:Int):Int:=if i=0 then p.1 else s.2.2.1.getD (p.2.getD (i-1).toNat 0).toNat 0
def aa0(s:ac)(p l:ab)(i:Int):Bool:=(agt s p i==l.1&&decide (i+l.2.length<=p.2.length))&&eqR (.sl (.int .i64)) ((p.2.take (i+l.2.length).toNat).drop i.toNat) l.2
def qk(p l r:ab)(i:Int):List Int:=p.2.take i.toNat++r.2++p.2.drop (i+l.2.length).toNat
def sq(s:ac)(p l r:ab)(i:Int)(k:al)(p2:ab):Nat->List Int->List Int
 |0,j=>j
 |n+1,j=>if aa0 s p l n=true/\(qk p l r n).length<=6 then (xp (sq s p l r i k p2 n j) i (dh k p2.1 (qk p l r n))).1 else sq s p l r i k p2 n j
structure VisP (s:ac) (p l r:ab) (i:Int) (k:al) (p2:ab) (j:List Int):Prop where
 U:UfP j
 i0:0<=i
 i1:i<j.length
 lp:p.2.length<=1000000
 ll:l.2.length<=1000000
 lr:r.2.length<=1000000
 wp:bz p.2 s.2.2.1.length=true
 at_:∀n:Int,0<=n->n<=p.2.length->aa0 s p l n=true->(qk p l r n).length<=6->0<=dh k p2.1 (qk p l r n)/\dh k p2.1 (qk p l r n)<j.length
theorem bju{s:ac}{p l r:ab}{i:Int}{k:al}{p2:ab}{j:List Int}(V:VisP s p l r i k p2 j):∀n:Nat,n<=p.2.length+1->UfP (sq s p l r i k p2 n j)/\(sq s p l r i k p2 n j).length=j.length
 |0,_=>⟨V.U,rfl⟩
 |n+1,h=>by
  obtain⟨a,b⟩:=bju V n (by omega);simp only[sq];split
  ·rename_i hc;obtain⟨q1,q2⟩:=V.at_ n (by omega) (by omega) hc.1 hc.2;obtain⟨u1,u2,_⟩:=amz a V.i0 (by rw[b];exact V.i1) q1 (by rw[b];exact q2);exact⟨u1,u2.trans b⟩
  ·exact⟨a,b⟩
def iw:Wc:=⟨(.pt (.sl (.fz (.int .i64)))),4,[(.pt SchemaT),ak,ak,ak,(.fn 114 (.p .any (.p (.pt (.int .i64)) (.p (.pt (.pt nq)) (.p (.pt ak) .u)))))],[false,true,true,true,false],fun x y=>[VisP y.1 y.2.1 y.2.2.1 y.2.2.2.1 y.2.2.2.2.1.2.1 y.2.2.2.2.1.2.2.1 y.2.2.2.2.1.2.2.2.1 x],fun x y=>sq y.1 y.2.1 y.2.2.1 y.2.2.2.1 y.2.2.2.2.1.2.1 y.2.2.2.2.1.2.2.1 y.2.2.2.2.1.2.2.2.1 (y.2.1.2.length+1) x⟩
def aac:Ct:=blf iw
def ah9:Ann:=(.s .n (.s .n (.s .n (.l [(4,(.fc 114 (.pr (.ad 1000000 [.de]) (.pr (.d (.pt (.int .i64))) (.pr (.d (.pt (.pt (.p (.mp .str (.int .i64)) (.p (.sl (.int .i64)) (.sl (.p (.int .i64) (.sl (.int .i64))))))))) (.pr (.d (.pt (.p (.int .i64) (.sl (.int .i64))))) .u)))))),(10,(.d (.int .i64))),(11,(.d (.int .i64)))] [(1000000,(.pt (.sl (.fz (.int .i64)))))] [0,6,7,8] (.s .n (.s (.s .n (.s (.s .n (.j [(4,(.fc 114 (.pr (.ad 1000000 [.de]) (.pr (.d (.pt (.int .i64))) (.pr (.d (.pt (.pt (.p (.mp .str (.int .i64)) (.p (.sl (.int .i64)) (.sl (.p (.int .i64) (.sl (.int .i64))))))))) (.pr (.d (.pt (.p (.int .i64) (.sl (.int .i64))))) .u))))))] [(1000000,(.pt (.sl (.fz (.int .i64)))))] [0,6,7,8,10,11] (.s (.s .n (.s .n (.j [(4,(.fc 114 (.pr (.ad 1000000 [.de]) (.pr (.d (.pt (.int .i64))) (.pr (.d (.pt (.pt (.p (.mp .str (.int .i64)) (.p (.sl (.int .i64)) (.sl (.p (.int .i64) (.sl (.int .i64))))))))) (.pr (.d (.pt (.p (.int .i64) (.sl (.int .i64))))) .u))))))] [(1000000,(.pt (.sl (.fz (.int .i64)))))] [0,6,7,8,10,11] .n))) .n))) (.s .n (.j [(4,(.fc 114 (.pr (.ad 1000000 [.de]) (.pr (.d (.pt (.int .i64))) (.pr (.d (.pt (.pt (.p (.mp .str (.int .i64)) (.p (.sl (.int .i64)) (.sl (.p (.int .i64) (.sl (.int .i64))))))))) (.pr (.d (.pt (.p (.int .i64) (.sl (.int .i64))))) .u)))))),(10,(.d (.int .i64)))] [(1000000,(.pt (.sl (.fz (.int .i64)))))] [0,6,7,8,11] .n)))) .n))))))
def ahy:FuncId->Option Ct:=lkp [(77,mb),(86,sg),(114,qp)]
def aaa(box:(List Int))(s:ac)(p:ab)(left:ab)(right:ab)(visit:Unit×(Int×(al×(ab×Unit))))(K:(List Int)->Prop):Prop:=(bj (S:=(((Unit×(Int×(((List (ByteArray×Int))×bse)×(br9×Unit))))×(Int×(Int×Unit)))×bsc)) (fun s1=>(fun next=>((inK .i64 s1.1.1.2.1)->((T.ok (T.mp T.str (.int .i64)) s1.1.1.2.2.1.1)->((T.ok (.sl (.int .i64)) s1.1.1.2.2.1.2.1)->((T.ok (.sl ak) s1.1.1.2.2.1.2.2)->((inK .i64 s1.1.1.2.2.2.1.1)->((T.ok (.sl (.int .i64)) s1.1.1.2.2.2.1.2)->((inK .i64 s1.1.2.1)->((inK .i64 s1.1.2.2.1)->((T.ok (.sl (.int .i64)) s1.2.1)->(cnd (decide (s1.1.2.2.1<=(p.2.length:Int))) ((inK .i64 (s1.1.2.2.1+(left.2.length:Int)))/\(((((s1.1.2.1==left.1)&&(decide ((s1.1.2.2.1+(left.2.length:Int))<=(p.2.length:Int))))=true)->((s1.1.2.2.1<=(s1.1.2.2.1+(left.2.length:Int)))/\(((s1.1.2.2.1+(left.2.length:Int))<=(p.2.length:Int))/\(0<=s1.1.2.2.1))))/\(ji (S:=(((Unit×(Int×(((List (ByteArray×Int))×bse)×(br9×Unit))))×Unit)×bsc)) (fun s2=>((inK .i64 s2.1.1.2.1)->((T.ok (T.mp T.str (.int .i64)) s2.1.1.2.2.1.1)->((T.ok (.sl (.int .i64)) s2.1.1.2.2.1.2.1)->((T.ok (.sl ak) s2.1.1.2.2.1.2.2)->((inK .i64 s2.1.1.2.2.2.1.1)->((T.ok (.sl (.int .i64)) s2.1.1.2.2.2.1.2)->((T.ok (.sl (.int .i64)) s2.2.1)->(ji (S:=(((Unit×(Int×(((List (ByteArray×Int))×bse)×(br9×Unit))))×(Int×Unit))×bsc)) (fun s3=>((inK .i64 s3.1.1.2.1)->((T.ok (T.mp T.str (.int .i64)) s3.1.1.2.2.1.1)->((T.ok (.sl (.int .i64)) s3.1.1.2.2.1.2.1)->((T.ok (.sl ak) s3.1.1.2.2.1.2.2)->((inK .i64 s3.1.1.2.2.2.1.1)->((T.ok (.sl (.int .i64)) s3.1.1.2.2.2.1.2)->((inK .i64 s3.1.2.1)->((T.ok (.sl (.int .i64)) s3.2.1)->((inK .i64 (s1.1.2.2.1+1))/\(next ((((),(s3.1.1.2.1,(s3.1.1.2.2.1,(s3.1.1.2.2.2.1,())))),(s3.1.2.1,((s1.1.2.2.1+1),()))),(s3.2.1,()))))))))))))) (fun k=>(cnd (decide (s1.1.2.2.1<(p.2.length:Int))) ((0<=s1.1.2.2.1)/\((s1.1.2.2.1<(p.2.length:Int))/\((0<=(p.2.getD s1.1.2.2.1.toNat 0))/\(((p.2.getD s1.1.2.2.1.toNat 0)<(s.2.2.1.length:Int))/\(k ((((),(s2.1.1.2.1,(s2.1.1.2.2.1,(s2.1.1.2.2.2.1,())))),((s.2.2.1.getD (Int.toNat (p.2.getD s1.1.2.2.1.toNat 0)) 0),())),(s2.2.1,()))))))) (k ((((),(s2.1.1.2.1,(s2.1.1.2.2.1,(s2.1.1.2.2.2.1,())))),(s1.1.2.1,())),(s2.2.1,())))))))))))))) (fun k=>(cnd (((s1.1.2.1==left.1)&&(decide ((s1.1.2.2.1+(left.2.length:Int))<=(p.2.length:Int))))&&(eqR (.sl (.int .i64)) (List.drop s1.1.2.2.1.toNat (List.take (Int.toNat (s1.1.2.2.1+(left.2.length:Int))) p.2)) left.2)) ((0<=s1.1.2.2.1)/\((s1.1.2.2.1<=(p.2.length:Int))/\(((List.length (List.take s1.1.2.2.1.toNat p.2))<=1099511627776)/\((0<=(s1.1.2.2.1+(left.2.length:Int)))/\(((s1.1.2.2.1+(left.2.length:Int))<=(p.2.length:Int))/\((eg (List.length (List.take s1.1.2.2.1.toNat p.2)) right.2.length 8)/\((eg (List.length ((List.take s1.1.2.2.1.toNat p.2)++right.2)) (List.length (List.drop (Int.toNat (s1.1.2.2.1+(left.2.length:Int))) p.2)) 8)/\(ji (S:=(((Unit×(Int×(((List (ByteArray×Int))×bse)×(br9×Unit))))×Unit)×bsc)) (fun s2=>((inK .i64 s2.1.1.2.1)->((T.ok (T.mp T.str (.int .i64)) s2.1.1.2.2.1.1)->((T.ok (.sl (.int .i64)) s2.1.1.2.2.1.2.1)->((T.ok (.sl ak) s2.1.1.2.2.1.2.2)->((inK .i64 s2.1.1.2.2.2.1.1)->((T.ok (.sl (.int .i64)) s2.1.1.2.2.2.1.2)->((T.ok (.sl (.int .i64)) s2.2.1)->(k ((((),(s2.1.1.2.1,(s2.1.1.2.2.1,(s2.1.1.2.2.2.1,())))),()),(s2.2.1,()))))))))))) (fun k1=>(cnd (decide ((((List.length (((List.take s1.1.2.2.1.toNat p.2)++right.2)++(List.drop (Int.toNat (s1.1.2.2.1+(left.2.length:Int))) p.2))):Nat):Int)<=6)) ((UfP s1.2.1)/\((0<=s1.1.1.2.1)/\((s1.1.1.2.1<(s1.2.1.length:Int))/\(((List.length (((List.take s1.1.2.2.1.toNat p.2)++right.2)++(List.drop (Int.toNat (s1.1.2.2.1+(left.2.length:Int))) p.2)))<=1000000)/\((0<=(dh s1.1.1.2.2.1 s1.1.1.2.2.2.1.1 (((List.take s1.1.2.2.1.toNat p.2)++right.2)++(List.drop (Int.toNat (s1.1.2.2.1+(left.2.length:Int))) p.2))))/\(((dh s1.1.1.2.2.1 s1.1.1.2.2.2.1.1 (((List.take s1.1.2.2.1.toNat p.2)++right.2)++(List.drop (Int.toNat (s1.1.2.2.1+(left.2.length:Int))) p.2)))<(s1.2.1.length:Int))/\(k1 ((((),(s1.1.1.2.1,(s1.1.1.2.2.1,(s1.1.1.2.2.2.1,())))),()),((xp s1.2.1 s1.1.1.2.1 (dh s1.1.1.2.2.1 s1.1.1.2.2.2.1.1 (((List.take s1.1.2.2.1.toNat p.2)++right.2)++(List.drop (Int.toNat (s1.1.2.2.1+(left.2.length:Int))) p.2)))).1,()))))))))) (k1 ((((),(s1.1.1.2.1,(s1.1.1.2.2.1,(s1.1.1.2.2.2.1,())))),()),(s1.2.1,()))))))))))))) (k ((((),(s1.1.1.2.1,(s1.1.1.2.2.1,(s1.1.1.2.2.2.1,())))),()),(s1.2.1,())))))))) (K s1.2.1))))))))))))) ((((),(visit.2.1,(visit.2.2.1,(visit.2.2.2.1,())))),(p.1,(0,()))),(box,())))
theorem ajj(box:(List Int))(s:ac)(p:ab)(left:ab)(right:ab)(visit:Unit×(Int×(al×(ab×Unit))))(hok:ae (iw.o.strip.oks box))(hok2:ae (okL iw.as (s,p,left,right,visit,())))(hpre:ae (iw.pre box (s,p,left,right,visit,()))):aaa box s p left right visit (fun z=>z=iw.new box (s,p,left,right,visit,())):=by
 simp only[iw,O.strip,okL,T.oks,T.ok,ap,ae,a0e,a0c,a0h]at hok hok2 hpre
 try dsimp only[T.den]at hok
 try dsimp only[T.den]at hok2
 try dsimp only[T.den]at hpre
 unfold aaa;have V:=hpre;clear hpre hok hok2;have lp:=V.lp;have ll:=V.ll;have lr:=V.lr;refine bw (fun (q:(((Unit×(Int×(((List (ByteArray×Int))×bse)×(br9×Unit))))×(Int×(Int×Unit)))×bsc))=>q.1.1.2.1=visit.2.1/\q.1.1.2.2.1=visit.2.2.1/\q.1.1.2.2.2.1=visit.2.2.2.1/\(q.1.2.2.1<=p.2.length->q.1.2.1=agt s p q.1.2.2.1)/\0<=q.1.2.2.1/\q.1.2.2.1<=p.2.length+1/\q.2.1=sq s p left right visit.2.1 visit.2.2.1 visit.2.2.2.1 q.1.2.2.1.toNat box) (fun (q:(((Unit×(Int×(((List (ByteArray×Int))×bse)×(br9×Unit))))×(Int×(Int×Unit)))×bsc))=>(p.2.length+1-q.1.2.2.1).toNat) ?_ ⟨rfl,rfl,rfl,fun _=>rfl,a0r _,by dsimp only;omega,rfl⟩;rintro⟨⟨⟨_,vi,vk,vp,_⟩,nd,n,_⟩,J,_⟩ next ⟨e1,e2,e3,hnd,a0,a1,eJ⟩ hnx
 intros
 try dsimp only at e1 e2 e3 hnd a0 a1 eJ hnx⊢
 subst e1;subst e2;subst e3;subst eJ;obtain⟨U,lJ⟩:=bju V n.toNat (by omega);refine au (fun hle=>?_) (fun hgt=>?_)
 ·have hnd:=hnd hle;subst hnd;have hs:sq s p left right visit.2.1 visit.2.2.1 visit.2.2.2.1 (n+1).toNat box=if aa0 s p left n=true/\(qk p left right n).length<=6 then (xp (sq s p left right visit.2.1 visit.2.2.1 visit.2.2.2.1 n.toNat box) visit.2.1 (dh visit.2.2.1 visit.2.2.2.1.1 (qk p left right n))).1 else sq s p left right visit.2.1 visit.2.2.1 visit.2.2.2.1 n.toNat box:=by rw[show (n+1).toNat=n.toNat+1 from by omega];simp only[sq];rw[a1z a0]
  refine⟨by rw[ao];(try dsimp only);omega,fun h=>?_,il (fun (q:(((Unit×(Int×(((List (ByteArray×Int))×bse)×(br9×Unit))))×Unit)×bsc))=>q.1.1.2.1=visit.2.1/\q.1.1.2.2.1=visit.2.2.1/\q.1.1.2.2.2.1=visit.2.2.2.1/\q.2.1=sq s p left right visit.2.1 visit.2.2.1 visit.2.2.2.1 (n+1).toNat box) ?_ ?_⟩
  ·rw[a0a,a06]at h;exact⟨by omega,h.2,a0⟩
  ·rintro⟨⟨⟨_,vi,vk,vp,_⟩,_⟩,J,_⟩ ⟨e1,e2,e3,eJ⟩;intros
   try dsimp only at e1 e2 e3 eJ⊢
   subst e1;subst e2;subst e3;subst eJ;refine il (fun (q:(((Unit×(Int×(((List (ByteArray×Int))×bse)×(br9×Unit))))×(Int×Unit))×bsc))=>q.1.1.2.1=visit.2.1/\q.1.1.2.2.1=visit.2.2.1/\q.1.1.2.2.2.1=visit.2.2.2.1/\(n+1<=p.2.length->q.1.2.1=agt s p (n+1))/\q.2.1=sq s p left right visit.2.1 visit.2.2.1 visit.2.2.2.1 (n+1).toNat box) ?_ ?_
   ·rintro⟨⟨⟨_,vi,vk,vp,_⟩,nd,_⟩,J,_⟩ ⟨e1,e2,e3,e4,eJ⟩;intros
    try dsimp only at e1 e2 e3 e4 eJ⊢
    exact⟨by rw[ao];(try dsimp only);omega,hnx _ ⟨e1,e2,e3,e4,by dsimp only;omega,by dsimp only;omega,eJ⟩ (by dsimp only;omega)⟩
   ·intro k3 hk3;refine au (fun hlt=>?_) (fun h=>hk3 _ ⟨rfl,rfl,rfl,fun h'=>absurd h' (by omega),rfl⟩);obtain⟨w0,w1⟩:=lj.1 V.wp n a0 hlt;refine⟨a0,hlt,w0,w1,hk3 _ ⟨rfl,rfl,rfl,fun _=>?_,rfl⟩⟩;unfold agt;rw[ds (by omega),show n+1-1=n from by omega]
  ·intro kk hk;refine bd (fun hb=>?_) (fun hb=>?_)
   ·have hb0:=hb;rw[a0a,a0a,a06]at hb;have hl1:(p.2.take n.toNat).length<=1000000:=by rw[a1c];omega
    refine⟨a0,hle,by omega,by omega,hb.1.2,da (by omega),da (by rw[a0q,a1n];omega),il (fun (q:(((Unit×(Int×(((List (ByteArray×Int))×bse)×(br9×Unit))))×Unit)×bsc))=>q.1.1.2.1=visit.2.1/\q.1.1.2.2.1=visit.2.2.1/\q.1.1.2.2.2.1=visit.2.2.2.1/\q.2.1=sq s p left right visit.2.1 visit.2.2.1 visit.2.2.2.1 (n+1).toNat box) ?_ ?_⟩
    ·rintro⟨⟨⟨_,vi,vk,vp,_⟩,_⟩,J,_⟩ ⟨e1,e2,e3,eJ⟩;intros
     try dsimp only at e1 e2 e3 eJ⊢
     exact hk _ ⟨e1,e2,e3,eJ⟩
    ·intro k4 hk4;refine au (fun h6=>?_) (fun h6=>?_)
     ·have h6':(qk p left right n).length<=6:=Int.ofNat_le.1 h6;obtain⟨q1,q2⟩:=V.at_ n a0 hle hb0 h6';rw[d0 ⟨hb0,h6'⟩]at hs;exact⟨U,V.i0,by rw[lJ];exact V.i1,a09 h6' (by decide),q1,by rw[lJ];exact q2,hk4 _ ⟨rfl,rfl,rfl,hs.symm⟩⟩
     ·have h6':¬(qk p left right n).length<=6:=fun h=>h6 (Int.ofNat_le.2 h);rw[ds (fun h=>h6' h.2)]at hs;exact hk4 _ ⟨rfl,rfl,rfl,hs.symm⟩
   ·have hb':¬aa0 s p left n=true:=fun h=>by unfold aa0 at h;rw[hb]at h;cases h
    rw[ds (fun h=>hb' h.1)]at hs;exact hk _ ⟨rfl,rfl,rfl,hs.symm⟩
 ·have en:n=p.2.length+1:=by omega
  subst en;show sq _ _ _ _ _ _ _ _ _=sq _ _ _ _ _ _ _ _ _;rfl
theorem zn:b8 Tryz.prog 113 aac:=bmy (Φ:=ahy) (ai ri (ai ba5 (ai p7 aq))) bi (by kernel_rfl) (fn:=Tryz.f113) (c:=bf Tryz.f113) (by kernel_rfl) (by kernel_rfl) (by kernel_rfl) iw ah9 (cp [(6,19),(7,2011),(11,9)]) (by kernel_rfl) (by kernel_rfl) (by kernel_rfl) (by kernel_rfl) (by kernel_rfl) (by decide) (by kernel_rfl) (fun x y h1 h2 h3=>Eq.mp (by kernel_rfl) (ajj x y.1 y.2.1 y.2.2.1 y.2.2.2.1 y.2.2.2.2.1 h1 h2 h3))
def g7(s:ac)(p:ab):Int:=if p.2.length=0 then p.1 else s.2.2.1.getD (p.2.getD (p.2.length-1) 0).toNat 0
def kj:Ct:=⟨[SchemaT,ak],[true,true],fun x=>[bz x.2.1.2 x.1.2.2.1.length=true],[(false,(.fz (.int .i64)))],fun x=>(g7 x.1 x.2.1,()),false,none⟩
def afj(s:ac)(p:ab)(K:Int×Unit->Prop):Prop:=(cnd ((p.2.length:Int)==0) (K (p.1,())) ((inK .i64 ((p.2.length:Int)-1))/\((0<=((p.2.length:Int)-1))/\((((p.2.length:Int)-1)<(p.2.length:Int))/\((0<=(p.2.getD (Int.toNat ((p.2.length:Int)-1)) 0))/\(((p.2.getD (Int.toNat ((p.2.length:Int)-1)) 0)<(s.2.2.1.length:Int))/\(K ((s.2.2.1.getD (Int.toNat (p.2.getD (Int.toNat ((p.2.length:Int)-1)) 0)) 0),()))))))))
theorem aye(s:ac)(p:ab)(hok:ae (okL kj.args (s,p,())))(hpre:ae (kj.pre (s,p,()))):afj s p (fun r=>r=kj.res (s,p,())):=by
 simp only[kj,okL,T.oks,T.ok,ap,ae,a0e,a0c,a0h]at hok hpre
 try dsimp only[T.den]at hok hpre
 unfold afj;simp only[kj,g7];refine bd (fun hc=>?_) (fun hc=>?_)
 ·grind[cnd,ck,ao]
 ·simp at hc;have hl:0<p.2.length:=by grind[cnd,ck,ao]
  have hi:((p.2.length:Int)-1).toNat=p.2.length-1:=by omega
  have hm:p.2.getD (p.2.length-1) 0∈p.2:=by rw[←hi];exact ii p.2 0 (by omega) (by omega)
  have:=a1l.1 hpre _ hm;rw[hi]
  grind[cnd,ck,ao,inR]
theorem zh:b8 Tryz.prog 66 kj:=cg (Φ:=lkp []) aq bi (by kernel_rfl) (fn:=Tryz.f66) (c:=bf Tryz.f66) (by kernel_rfl) (by kernel_rfl) (by kernel_rfl) kj rfl .n (cp [(3,13)]) (by kernel_rfl) (by kernel_rfl) (by kernel_rfl) (by decide) (fun x K=>afj x.1 x.2.1 K) (fun _ _=>by kernel_rfl) (fun x h1 h2=>aye x.1 x.2.1 h1 h2)
def u7:List Int->List Int->Bool
 |_,[]=>false
 |[],_::_=>true
 |x::a,y::b=>if x=y then u7 a b else decide (x<y)
def mm:Ct:=⟨[(.sl (.int .i64)),(.sl (.int .i64))],[false,false],fun x=>[],[(false,(.fz .bool))],fun x=>(u7 x.1 x.2.1,()),false,none⟩
def as0:Ann:=(.s .n (.s (.s .n (.l [(5,(.d (.int .i64)))] [] [0,1] .n)) .n))
def act(a:List Int)(b:List Int)(K:Bool×Unit->Prop):Prop:=(bj (S:=bsd) (fun s=>(fun next=>((inK .i64 s.1.1)->(cnd ((decide (s.1.1<(a.length:Int)))&&(decide (s.1.1<(b.length:Int)))) ((0<=s.1.1)/\((s.1.1<(a.length:Int))/\((0<=s.1.1)/\((s.1.1<(b.length:Int))/\(cnd ((a.getD s.1.1.toNat 0) != (b.getD s.1.1.toNat 0)) ((0<=s.1.1)/\((s.1.1<(a.length:Int))/\((0<=s.1.1)/\((s.1.1<(b.length:Int))/\(K ((decide ((a.getD s.1.1.toNat 0)<(b.getD s.1.1.toNat 0))),())))))) ((inK .i64 (s.1.1+1))/\(next (((s.1.1+1),()),())))))))) (K ((decide ((a.length:Int)<(b.length:Int))),())))))) ((0,()),()))
theorem av4(a:List Int)(b:List Int)(hok:ae (okL mm.args (a,b,())))(hpre:ae (mm.pre (a,b,()))):act a b (fun r=>r=mm.res (a,b,())):=by
 simp only[mm,okL,T.oks,T.ok,ap,ae,a0e,a0c,a0h]at hok hpre
 try dsimp only[T.den]at hok hpre
 unfold act;have h1:a.length<=140737488355328:=by simp only[ck]at hok;omega
 clear hok hpre;refine bw (fun (s:bsd)=>0<=s.1.1/\s.1.1<=a.length/\s.1.1<=b.length/\u7 a b=u7 (a.drop s.1.1.toNat) (b.drop s.1.1.toNat)) (fun (s:bsd)=>(a.length-s.1.1).toNat) ?_ ⟨by simp,by simp,by simp,by simp⟩;rintro⟨⟨i,_⟩,_⟩ next ⟨h0,h2,h3,h4⟩ hn _
 try dsimp only at h0 h2 h3 h4 hn⊢
 refine bd (fun hc=>?_) (fun hc=>?_)
 ·simp only[a0a,a06]at hc;rw[mq a 0 h0 hc.1,mq b 0 h0 hc.2,u7]at h4;refine⟨h0,hc.1,h0,hc.2,bd (fun hd=>⟨h0,hc.1,h0,hc.2,?_⟩) (fun hd=>⟨by rw[ao];(try dsimp only);omega,?_⟩)⟩
  ·rw[ds (by simpa using hd)]at h4;simp only[mm,h4]
  ·rw[d0 (by simpa using hd)]at h4;exact hn _ ⟨by dsimp only;omega,by dsimp only;omega,by dsimp only;omega,h4⟩ (by dsimp only;omega)
 ·simp only[Bool.and_eq_false_iff,a2n]at hc;simp only[mm,h4];by_cases hb:i<b.length
  ·have ha:¬i<a.length:=by rcases hc with h|h <;> omega
   rw[pp a (by omega),mq b 0 h0 hb,u7,decide_eq_true (by omega:(a.length:Int)<b.length)]
  ·rw[pp b (by omega),decide_eq_false (by omega:¬(a.length:Int)<b.length)];cases a.drop i.toNat <;> rfl
theorem aum:b8 Tryz.prog 107 mm:=cg (Φ:=lkp []) aq bi (by kernel_rfl) (fn:=Tryz.f107) (c:=bf Tryz.f107) (by kernel_rfl) (by kernel_rfl) (by kernel_rfl) mm rfl as0 (cp [(4,8),(5,8)]) (by kernel_rfl) (by kernel_rfl) (by kernel_rfl) (by decide) (fun x K=>act x.1 x.2.1 K) (fun _ _=>by kernel_rfl) (fun x h1 h2=>av4 x.1 x.2.1 h1 h2)
def uw(s:ac)(p q:ab):Bool:=u7 (p.1::g7 s p::(p.2.length:Int)::p.2) (q.1::g7 s q::(q.2.length:Int)::q.2)
def pw:Ct:=⟨[SchemaT,ak,ak],[true,true,true],fun x=>[bz x.2.1.2 x.1.2.2.1.length=true,bz x.2.2.1.2 x.1.2.2.1.length=true,x.2.1.2.length<=1000000,x.2.2.1.2.length<=1000000],[(false,(.fz .bool))],fun x=>(uw x.1 x.2.1 x.2.2.1,()),false,none⟩
def ass:FuncId->Option Ct:=lkp [(107,mm),(66,kj)]
def adr(s:ac)(p:ab)(q:ab)(K:Bool×Unit->Prop):Prop:=(((bz p.2 (s.2.2.1.length:Int))=true)/\((eg (List.length (p.1::((g7 s p)::((p.2.length:Int)::[])))) p.2.length 8)/\(((bz q.2 (s.2.2.1.length:Int))=true)/\((eg (List.length (q.1::((g7 s q)::((q.2.length:Int)::[])))) q.2.length 8)/\(K ((u7 ((p.1::((g7 s p)::((p.2.length:Int)::[])))++p.2) ((q.1::((g7 s q)::((q.2.length:Int)::[])))++q.2)),()))))))
theorem avz(s:ac)(p:ab)(q:ab)(hok:ae (okL pw.args (s,p,q,())))(hpre:ae (pw.pre (s,p,q,()))):adr s p q (fun r=>r=pw.res (s,p,q,())):=by
 simp only[pw,okL,T.oks,T.ok,ap,ae,a0e,a0c,a0h]at hok hpre
 try dsimp only[T.den]at hok hpre
 unfold adr;obtain⟨h1,h2,h3,h4⟩:=hpre;exact⟨h1,da (by simp only[a0l,a0p];omega),h2,da (by simp only[a0l,a0p];omega),rfl⟩
theorem auf:b8 Tryz.prog 87 pw:=cg (Φ:=ass) (ai aum (ai zh aq)) bi (by kernel_rfl) (fn:=Tryz.f87) (c:=bf Tryz.f87) (by kernel_rfl) (by kernel_rfl) (by kernel_rfl) pw rfl .n (cp [(1,511),(2,511)]) (by kernel_rfl) (by kernel_rfl) (by kernel_rfl) (by decide) (fun x K=>adr x.1 x.2.1 x.2.2.1 K) (fun _ _=>by kernel_rfl) (fun x h1 h2=>avz x.1 x.2.1 x.2.2.1 h1 h2)
def iz(s:ac)(p:ab)(n:Nat):List ab:=((dx n fun e=>e).filter fun e=>s.2.1.getD e.toNat 0==g7 s p).map fun e=>(p.1,p.2++[e])
def gi(s:ac):Nat->Nat->List ab->List ab×Bool
 |0,_,l=>(l,true)
 |u+1,k,l=>if k<l.length then (if (l.getD k (0,[])).2.length=6 then gi s u (k+1) l else if 400<(l++iz s (l.getD k (0,[])) s.2.1.length).length then ([],false)else gi s u (k+1) (l++iz s (l.getD k (0,[])) s.2.1.length))else (l,true)
def d6(n:Int):List ab:=dx n.toNat fun x=>(x,[])
def uo(lt:ab->ab->Bool)(x:ab):List ab->List ab
 |[]=>[x]
 |y::r=>if lt x y then y::uo lt x r else x::y::r
def ab4(lt:ab->ab->Bool)(l:List ab):List ab:=l.foldl (fun a x=>uo lt x a) []
def xo(lt:ab->ab->Bool)(l:List ab):List ab:=(ab4 lt l).reverse
def cm(s:ac):List ab×Bool:=if (gi s 402 0 (d6 s.1)).2=true then (xo (uw s) (gi s 402 0 (d6 s.1)).1,true)else ([],false)
theorem ayw{s:ac}{p:ab}{e:Int}(h:0<=e):iz s p (e+1).toNat=iz s p e.toNat++(if (s.2.1.getD e.toNat 0==g7 s p)=true then [(p.1,p.2++[e])]else []):=by unfold iz;rw[vr h,List.filter_append,a2y];split <;> rename_i h1 <;> simp only[List.filter_cons,h1,a00,a29,List.filter_nil,a07,a2l,a02]
theorem bov{s:ac}{p:ab}{n:Nat}:(iz s p n).length<=n:=by unfold iz;rw[a0y];exact a09 (List.length_filter_le _ _) (Nat.le_of_eq (bp n))
def avo(s:ac)(p:ab):Prop:=p.2.length<=6/\bz p.2 s.2.2.1.length=true
theorem bpi{s:ac}{p q:ab}(hl:s.2.2.1.length=s.2.1.length)(hp:avo s p)(h6:¬p.2.length=6){n:Nat}(hn:n<=s.2.1.length)(h:q∈iz s p n):avo s q:=by unfold iz at h;obtain⟨e,he,rfl⟩:=a2f.1 h;obtain⟨he,_⟩:=a4e.1 he;obtain⟨_,h0,h1,rfl⟩:=pb.1 he;refine⟨by have:=hp.1;rw[a0q];simp only[a0l,a0p];omega,?_⟩;have h2:=hp.2;unfold bz at h2⊢;rw[a4u,h2,hl];simp only[a3u,List.all_nil,a0k,a17,inR,a0a,a06];omega
theorem bdx{lt:ab->ab->Bool}{x:ab}:∀l:List ab,(uo lt x l).length=l.length+1
 |[]=>rfl
 |y::r=>by unfold uo;split <;> simp only[a0l,bdx r]
theorem bps{lt:ab->ab->Bool}{l:List ab}{i:Int}(h0:0<=i)(h1:i<l.length):ab4 lt (l.take (i+1).toNat)=uo lt (l.getD i.toNat (0,[])) (ab4 lt (l.take i.toNat)):=by unfold ab4;rw[jz l (0,[]) h0 h1,a3g];rfl
theorem bcg{lt:ab->ab->Bool}:∀(l a:List ab),(l.foldl (fun a x=>uo lt x a) a).length=a.length+l.length
 |[],a=>rfl
 |x::l,a=>by rw[a12,bcg l,bdx,a0l];omega
theorem az2{lt:ab->ab->Bool}(l:List ab):(ab4 lt l).length=l.length:=by unfold ab4;rw[bcg];exact a10 _
theorem avb{lt:ab->ab->Bool}{x z:ab}:∀l:List ab,z∈uo lt x l->z=x\/z∈l
 |[],h=>.inl (a0u.1 h)
 |y::r,h=>by
  unfold uo at h;split at h
  ·rcases a0s.1 h with h|h
   ·exact .inr (h▸a3d ..)
   ·rcases avb r h with h|h
    ·exact .inl h
    ·exact .inr (a20 _ h)
  ·rcases a0s.1 h with h|h
   ·exact .inl h
   ·exact .inr h
theorem az6{lt:ab->ab->Bool}{z:ab}:∀(l a:List ab),z∈l.foldl (fun a x=>uo lt x a) a->z∈a\/z∈l
 |[],a,h=>.inl h
 |x::l,a,h=>by
  rcases az6 l _ h with h|h
  ·rcases avb a h with h|h
   ·exact .inr (h▸a3d ..)
   ·exact .inl h
  ·exact .inr (a20 _ h)
def ai3(lt:ab->ab->Bool)(l:List ab)(i:Int):List ab:=(ab4 lt (l.take i.toNat)).reverse++l.drop i.toNat
theorem bor{lt:ab->ab->Bool}(l:List ab)(i:Int):(ai3 lt l i).length=l.length:=by unfold ai3;rw[a0q,a5b,az2,a1c,a1n];omega
theorem bq5{lt:ab->ab->Bool}(l:List ab):ai3 lt l 1=l:=by cases l <;> rfl
theorem brj{lt:ab->ab->Bool}{l:List ab}{i:Int}(h:(l.length:Int)<=i):ai3 lt l i=xo lt l:=by unfold ai3 xo;rw[ng l h,a4t (by omega),a2h]
theorem bdr{α:Type}{d x:α}{t:List α}:∀p:List α,(p++x::t).getD p.length d=x
 |[]=>rfl
 |_::p=>by simp
theorem bk8{α:Type}{d x y:α}{t:List α}:∀p:List α,(p++y::x::t).getD (p.length+1) d=x
 |[]=>rfl
 |_::p=>by simp
theorem bl3{α:Type}{x y:α}{t:List α}:∀p:List α,((p++y::x::t).set (p.length+1) y).set p.length x=p++x::y::t
 |[]=>rfl
 |a::p=>by simp
theorem avt{α:Type}{l m:List α}{d:α}{k:Nat}(h:k<l.length):(l++m).getD k d=l.getD k d:=by rw[a0n,a0n,a1g h]
def lh:Ct:=⟨[SchemaT],[true],fun x=>[0<=x.1.1,x.1.1<=400,x.1.2.1.length<=1000000,x.1.2.2.1.length=x.1.2.1.length],[(false,(.fz (.sl ak))),(false,(.fz .bool))],fun x=>((cm x.1).1,(cm x.1).2,()),true,none⟩
def arb:Ann:=(.s .n (.j [(1,(.ad 1 [.de])),(4,(.ref 800004 []))] [(1,(.pt (.fz (.p (.int .i64) (.p (.sl (.int .i64)) (.p (.sl (.int .i64)) (.p (.sl (.p (.int .i64) (.sl (.int .i64)))) (.sl (.p (.int .i64) (.sl (.int .i64))))))))))),(800004,(.sl (.fz (.p (.int .i64) (.sl (.int .i64))))))] [] (.s .n (.s (.s .n (.l [(4,(.ref 800004 [])),(5,(.d (.int .i64)))] [(800004,(.sl (.fz (.p (.int .i64) (.sl (.int .i64))))))] [1] .n)) (.s (.s .n (.l [(4,(.ref 800004 [])),(6,(.d (.int .i64)))] [(800004,(.sl (.fz (.p (.int .i64) (.sl (.int .i64))))))] [1] (.s .n (.s (.j [(4,(.ref 800004 []))] [(800004,(.sl (.fz (.p (.int .i64) (.sl (.int .i64))))))] [1,6] (.s .n (.s (.s .n (.l [(4,(.ref 800004 [])),(7,(.d (.int .i64)))] [(800004,(.sl (.fz (.p (.int .i64) (.sl (.int .i64))))))] [1,6] (.s .n (.s (.s .n (.j [(4,(.ref 800004 []))] [(800004,(.sl (.fz (.p (.int .i64) (.sl (.int .i64))))))] [1,6,7] .n)) .n)))) .n))) .n)))) (.s (.s .n (.l [(4,(.ref 800004 [])),(8,(.d (.int .i64)))] [(800004,(.sl (.fz (.p (.int .i64) (.sl (.int .i64))))))] [1] (.s .n (.s (.s .n (.l [(4,(.ref 800004 [])),(9,(.d (.int .i64)))] [(800004,(.sl (.fz (.p (.int .i64) (.sl (.int .i64))))))] [1,8] .n)) .n)))) .n))))))
def ary:FuncId->Option Ct:=lkp [(58,mg),(66,kj),(87,pw)]
def abw(s:ac)(K:(List ab)×Bool×Unit->Prop):Prop:=(ji (S:=bsr) (fun s1=>((inK .i64 s1.2.1.1)->((T.ok (.sl (.int .i64)) s1.2.1.2.1)->((T.ok (.sl (.int .i64)) s1.2.1.2.2.1)->((T.ok (.sl ak) s1.2.1.2.2.2.1)->((T.ok (.sl ak) s1.2.1.2.2.2.2)->((T.ok (.sl ak) s1.2.2.1)->(bj (S:=bsb) (fun s2=>(fun next=>((inK .i64 s2.1.2.1)->((T.ok (.sl ak) s2.2.1)->(cnd (decide (s2.1.2.1<s1.2.1.1)) ((eg s2.2.1.length (List.length ((s2.1.2.1,[])::([]:List br9))) 32)/\((inK .i64 (s2.1.2.1+1))/\(next (((),((s2.1.2.1+1),())),((s2.2.1++((s2.1.2.1,[])::([]:List br9))),()))))) (bj (S:=bsb) (fun s3=>(fun next1=>((inK .i64 s3.1.2.1)->((T.ok (.sl ak) s3.2.1)->(cnd (decide (s3.1.2.1<(s3.2.1.length:Int))) (ji (S:=bsg) (fun s4=>((T.ok (.sl ak) s4.2.1)->((inK .i64 (s3.1.2.1+1))/\(next1 (((),((s3.1.2.1+1),())),(s4.2.1,())))))) (fun k=>((0<=s3.1.2.1)/\((s3.1.2.1<(s3.2.1.length:Int))/\(cnd ((((List.length (s3.2.1.getD s3.1.2.1.toNat (0,[])).2):Nat):Int)==6) (k (((),()),(s3.2.1,()))) (bj (S:=bsb) (fun s4=>(fun next2=>((inK .i64 s4.1.2.1)->((T.ok (.sl ak) s4.2.1)->(cnd (decide (s4.1.2.1<(s1.2.1.2.1.length:Int))) ((0<=s4.1.2.1)/\((s4.1.2.1<(s1.2.1.2.1.length:Int))/\((0<=s3.1.2.1)/\((s3.1.2.1<(s4.2.1.length:Int))/\(((bz (s4.2.1.getD s3.1.2.1.toNat (0,[])).2 (s1.2.1.2.2.1.length:Int))=true)/\(ji (S:=bsg) (fun s5=>((T.ok (.sl ak) s5.2.1)->((inK .i64 (s4.1.2.1+1))/\(next2 (((),((s4.1.2.1+1),())),(s5.2.1,())))))) (fun k1=>(cnd ((s1.2.1.2.1.getD s4.1.2.1.toNat 0)==(g7 s1.2.1 (s4.2.1.getD s3.1.2.1.toNat (0,[])))) ((0<=s3.1.2.1)/\((s3.1.2.1<(s4.2.1.length:Int))/\((0<=s3.1.2.1)/\((s3.1.2.1<(s4.2.1.length:Int))/\(((List.length (s4.2.1.getD s3.1.2.1.toNat (0,[])).2)<=1099511627776)/\((eg (List.length (s4.2.1.getD s3.1.2.1.toNat (0,[])).2) (List.length (s4.1.2.1::[])) 8)/\((eg s4.2.1.length (List.length (((s4.2.1.getD s3.1.2.1.toNat (0,[])).1,((s4.2.1.getD s3.1.2.1.toNat (0,[])).2++(s4.1.2.1::[])))::([]:List br9))) 32)/\(k1 (((),()),((s4.2.1++(((s4.2.1.getD s3.1.2.1.toNat (0,[])).1,((s4.2.1.getD s3.1.2.1.toNat (0,[])).2++(s4.1.2.1::[])))::([]:List br9))),())))))))))) (k1 (((),()),(s4.2.1,()))))))))))) (cnd (decide (400<(s4.2.1.length:Int))) (K (([]:List br9),(false,()))) (k (((),()),(s4.2.1,()))))))))) (((),(0,())),(s3.2.1,())))))))) (bj (S:=bsb) (fun s4=>(fun next2=>((inK .i64 s4.1.2.1)->((T.ok (.sl ak) s4.2.1)->(cnd (decide (s4.1.2.1<(s4.2.1.length:Int))) (bj (S:=bsb) (fun s5=>(fun next3=>((inK .i64 s5.1.2.1)->((T.ok (.sl ak) s5.2.1)->((((decide (0<s5.1.2.1))=true)->((s5.1.2.1<(s5.2.1.length:Int))/\(0<=s5.1.2.1)))/\((((decide (0<s5.1.2.1))=true)->(inK .i64 (s5.1.2.1-1)))/\((((decide (0<s5.1.2.1))=true)->(((s5.1.2.1-1)<(s5.2.1.length:Int))/\(0<=(s5.1.2.1-1))))/\((((decide (0<s5.1.2.1))=true)->(((bz (s5.2.1.getD (Int.toNat (s5.1.2.1-1)) (0,[])).2 (s1.2.1.2.2.1.length:Int))=true)/\(((List.length (s5.2.1.getD s5.1.2.1.toNat (0,[])).2)<=1000000)/\(((List.length (s5.2.1.getD (Int.toNat (s5.1.2.1-1)) (0,[])).2)<=1000000)/\((bz (s5.2.1.getD s5.1.2.1.toNat (0,[])).2 (s1.2.1.2.2.1.length:Int))=true)))))/\(cnd ((decide (0<s5.1.2.1))&&(uw s1.2.1 (s5.2.1.getD s5.1.2.1.toNat (0,[])) (s5.2.1.getD (Int.toNat (s5.1.2.1-1)) (0,[])))) ((0<=s5.1.2.1)/\((s5.1.2.1<(s5.2.1.length:Int))/\((inK .i64 (s5.1.2.1-1))/\((0<=(s5.1.2.1-1))/\(((s5.1.2.1-1)<(s5.2.1.length:Int))/\((0<=s5.1.2.1)/\((s5.1.2.1<(s5.2.1.length:Int))/\((inK .i64 (s5.1.2.1-1))/\((0<=(s5.1.2.1-1))/\(((s5.1.2.1-1)<(((List.length (List.set s5.2.1 s5.1.2.1.toNat (s5.2.1.getD (Int.toNat (s5.1.2.1-1)) (0,[])))):Nat):Int))/\((inK .i64 (s5.1.2.1-1))/\(next3 (((),((s5.1.2.1-1),())),((List.set (List.set s5.2.1 s5.1.2.1.toNat (s5.2.1.getD (Int.toNat (s5.1.2.1-1)) (0,[]))) (Int.toNat (s5.1.2.1-1)) (s5.2.1.getD s5.1.2.1.toNat (0,[]))),())))))))))))))) ((inK .i64 (s4.1.2.1+1))/\(next2 (((),((s4.1.2.1+1),())),(s5.2.1,()))))))))))))) (((),(s4.1.2.1,())),(s4.2.1,()))) (K (s4.2.1,(true,())))))))) (((),(1,())),(s3.2.1,())))))))) (((),(0,())),(s2.2.1,())))))))) (((),(0,())),(s1.2.2.1,())))))))))) (fun k=>(k (((),((),())),(s,(([]:List br9),()))))))
theorem at8(s:ac)(hok:ae (okL lh.args (s,())))(hpre:ae (lh.pre (s,()))):abw s (fun r=>r=lh.res (s,())):=by
 simp only[lh,okL,T.oks,T.ok,ap,ae,a0e,a0c,a0h]at hok hpre
 try dsimp only[T.den]at hok hpre
 unfold abw;obtain⟨n0,n8,hf,ht⟩:=hpre;refine il (fun (q:bsr)=>q.2.1=s/\q.2.2.1=[]) ?_ (fun k hk=>hk _ ⟨rfl,rfl⟩);rintro⟨_,sc,l0,_⟩ ⟨e0,e1⟩;intros
 try dsimp only at e0 e1⊢
 subst e0;subst e1;refine bw (fun (q:bsb)=>0<=q.1.2.1/\q.1.2.1<=sc.1/\q.2.1=d6 q.1.2.1) (fun (q:bsb)=>(sc.1-q.1.2.1).toNat) ?_ ⟨by simp,n0,rfl⟩;rintro⟨⟨_,x,_⟩,l,_⟩ next ⟨x0,x1,q⟩ hnx
 intros
 try dsimp only at x0 x1 q hnx⊢
 subst q;have zl:(d6 x).length=x.toNat:=bp _;refine au (fun hx=>?_) (fun hx=>?_)
 ·refine⟨da (by rw[zl];simp only[a0l,a0p];omega),by rw[ao];(try dsimp only);omega,hnx _ ⟨by dsimp only;omega,by dsimp only;omega,?_⟩ (by dsimp only;omega)⟩
  try dsimp only
  unfold d6;rw[vr x0]
 have ex:x=sc.1:=by omega
 subst ex;clear hnx;have hz0:∀p∈d6 sc.1,avo sc p:=by intro p hp;unfold d6 at hp;obtain⟨e,h0,h1,rfl⟩:=pb.1 hp;exact⟨by simp,rfl⟩
 refine bw (fun (q:bsb)=>0<=q.1.2.1/\q.1.2.1<=400/\gi sc 402 0 (d6 sc.1)=gi sc (402-q.1.2.1).toNat q.1.2.1.toNat q.2.1/\(∀p∈q.2.1,avo sc p)/\q.2.1.length<=400) (fun (q:bsb)=>(400-q.1.2.1).toNat) ?_ ⟨by simp,by simp,rfl,hz0,by dsimp only;omega⟩;rintro⟨⟨_,k,_⟩,L,_⟩ next ⟨k0,k41,hg,hp,hL⟩ hnx
 intros
 try dsimp only at k0 k41 hg hp hL hnx⊢
 refine au (fun hc=>?_) (fun hc=>?_)
 ·have hpk:=hp _ (ii L (0,[]) k0 hc);have hgk:gi sc 402 0 (d6 sc.1)=(if (L.getD k.toNat (0,[])).2.length=6 then gi sc (402-(k+1)).toNat (k+1).toNat L else if 400<(L++iz sc (L.getD k.toNat (0,[])) sc.2.1.length).length then ([],false)else gi sc (402-(k+1)).toNat (k+1).toNat (L++iz sc (L.getD k.toNat (0,[])) sc.2.1.length)):=by rw[hg,show (402-k).toNat=(402-(k+1)).toNat+1 from by omega,show (k+1).toNat=k.toNat+1 from by omega];rw[gi,d0 (by omega)]
  refine il (fun (q:bsg)=>gi sc 402 0 (d6 sc.1)=gi sc (402-(k+1)).toNat (k+1).toNat q.2.1/\(∀p∈q.2.1,avo sc p)/\q.2.1.length<=400) ?_ ?_
  ·rintro⟨_,M,_⟩ ⟨m1,m2,m3⟩;intros
   try dsimp only at m1 m2 m3⊢
   exact⟨by rw[ao];(try dsimp only);omega,hnx _ ⟨by dsimp only;omega,by dsimp only;omega,m1,m2,m3⟩ (by dsimp only;omega)⟩
  intro kk hkk;generalize hP:L.getD k.toNat (0,[])=P at *;refine⟨k0,hc,bd (fun h6=>?_) (fun h6=>?_)⟩
  ·have h6:P.2.length=6:=by have:=a1v h6;omega
   rw[d0 h6]at hgk;exact hkk _ ⟨hgk,hp,hL⟩
  have h6:¬P.2.length=6:=by have:=a18.1 h6;omega
  rw[ds h6]at hgk;refine bw (fun (q:bsb)=>0<=q.1.2.1/\q.1.2.1<=sc.2.1.length/\q.2.1=L++iz sc P q.1.2.1.toNat) (fun (q:bsb)=>(sc.2.1.length-q.1.2.1).toNat) ?_ ⟨by simp,by simp,by simp[iz,dx]⟩;rintro⟨⟨_,e,_⟩,M,_⟩ next1 ⟨e0,e1,q⟩ hn1;intros
  try dsimp only at e0 e1 q hn1⊢
  subst q;have hM:(L++iz sc P e.toNat).length<=400+sc.2.1.length:=by rw[a0q];have:=@bov sc P e.toNat;omega
  have hMk:k<(L++iz sc P e.toNat).length:=by rw[a0q];omega
  have hG:(L++iz sc P e.toNat).getD k.toNat (0,[])=P:=by rw[avt (by omega),hP]
  have hE:=@ayw sc P e e0;rw[hG];refine au (fun he=>?_) (fun he=>?_)
  ·refine⟨e0,he,k0,hMk,hpk.2,il (fun (q:bsg)=>q.2.1=L++iz sc P (e+1).toNat) ?_ ?_⟩
   ·rintro⟨_,M2,_⟩ q2;intros
    try dsimp only at q2⊢
    subst q2;exact⟨by rw[ao];(try dsimp only);omega,hn1 _ ⟨by dsimp only;omega,by dsimp only;omega,rfl⟩ (by dsimp only;omega)⟩
   ·intro k1 hk1;rw[hE]at hk1;have hp6:=hpk.1;refine bd (fun hb=>?_) (fun hb=>?_)
    ·rw[d0 hb]at hk1;exact⟨k0,hMk,k0,hMk,by omega,da (by simp only[a0l,a0p];omega),da (by simp only[a0l,a0p];omega),hk1 _ (a08 _ _ _)⟩
    ·rw[ds (by rw[hb];decide),a2h]at hk1;exact hk1 _ rfl
  ·have ee:e=sc.2.1.length:=by omega
   subst ee;rw[a0m];refine au (fun h4=>?_) (fun h4=>?_)
   ·rw[d0 (by omega)]at hgk;simp only[lh,cm];rw[hgk,ds (by decide)]
   ·rw[ds (by omega)]at hgk;refine hkk _ ⟨hgk,fun p hp'=>?_,by dsimp only;omega⟩;rcases a05.1 hp' with h|h
    ·exact hp p h
    ·exact bpi ht hpk h6 (a0f _) h
 ·have hgl:gi sc 402 0 (d6 sc.1)=(L,true):=by rw[hg,show (402-k).toNat=(401-k).toNat+1 from by omega,gi,ds (by omega)]
  clear hnx;simp only[lh,cm];rw[hgl,d0 rfl]
  try dsimp only
  generalize hlt:uw sc=lt at *;refine bw (fun (q:bsb)=>1<=q.1.2.1/\q.2.1=ai3 lt L q.1.2.1) (fun (q:bsb)=>(L.length-q.1.2.1).toNat) ?_ ⟨by simp,(bq5 L).symm⟩;rintro⟨⟨_,i,_⟩,A,_⟩ next1 ⟨i0,q⟩ hn1;intros
  try dsimp only at i0 q hn1⊢
  subst q;rw[bor];refine au (fun hi=>?_) (fun hi=>?_)
  ·have hs:=bps (lt:=lt) (l:=L) (i:=i) (by omega) hi;have hd:L.drop i.toNat=L.getD i.toNat (0,[])::L.drop (i+1).toNat:=mq L (0,[]) (by omega) hi;have ha:ai3 lt L (i+1)=(uo lt (L.getD i.toNat (0,[])) (ab4 lt (L.take i.toNat))).reverse++L.drop (i+1).toNat:=by unfold ai3;rw[hs]
   have hl:(ab4 lt (L.take i.toNat)).length=i.toNat:=by rw[az2,a1c];omega
   have hA:ai3 lt L i=(ab4 lt (L.take i.toNat)).reverse++L.getD i.toNat (0,[])::L.drop (i+1).toNat:=by unfold ai3;rw[hd]
   have hX:=hp _ (ii L (0,[]) (i:=i) (by omega) hi)
   have hRm:∀z∈ab4 lt (L.take i.toNat),avo sc z:=fun z hz=>by
    rcases az6 _ _ hz with h|h
    ·cases h
    ·exact hp z (List.mem_of_mem_take h)
   rw[hA];generalize L.getD i.toNat (0,[])=X at *;generalize ab4 lt (L.take i.toNat)=R at *;generalize L.drop (i+1).toNat=Q at *;refine bw (fun (q:bsb)=>∃R1 R2,R=R1++R2/\(R2.length:Int)=q.1.2.1/\uo lt X R=R1++uo lt X R2/\q.2.1=R2.reverse++X::(R1.reverse++Q)) (fun (q:bsb)=>q.1.2.1.toNat) ?_ ⟨[],R,rfl,by dsimp only;omega,rfl,rfl⟩;rintro⟨⟨_,k,_⟩,B,_⟩ next2 ⟨R1,R2,r1,r2,r3,r4⟩ hn2;intros
   try dsimp only at r1 r2 r3 r4 hn2⊢
   subst r4
   cases R2 with
   |nil=>
    have ek:k=0:=by simpa using r2.symm
    subst ek;refine⟨fun h=>by simp at h,fun h=>by simp at h,fun h=>by simp at h,fun h=>by simp at h,bd (fun h=>by simp at h) (fun _=>⟨by rw[ao];(try dsimp only);omega,hn1 _ ⟨by dsimp only;omega,?_⟩ (by dsimp only;omega)⟩)⟩
    try dsimp only
    rw[ha,r3];simp[uo]
   |cons Y R2=>
    simp only[a0l]at r2;have hr:R1.length+(R2.length+1)=i.toNat:=by rw[←hl,r1];simp
    have hY:=hRm Y (by rw[r1];simp);have e1:(Y::R2).reverse++X::(R1.reverse++Q)=R2.reverse++Y::X::(R1.reverse++Q):=by simp
    rw[e1];have hk:k.toNat=R2.reverse.length+1:=by rw[a5b];omega
    have hk1:(k-1).toNat=R2.reverse.length:=by rw[a5b];omega
    rw[hk,hk1,bdr,bk8,bl3];have hlen:((R2.reverse++Y::X::(R1.reverse++Q)).length:Int)=R2.length+2+R1.length+Q.length:=by simp;omega
    have hlen2:(((R2.reverse++Y::X::(R1.reverse++Q)).set (R2.reverse.length+1) Y).length:Int)=R2.length+2+R1.length+Q.length:=by rw[a1h];exact hlen
    have hk63:inK .i64 (k-1):=by rw[ao];(try dsimp only);omega
    have y6:=hY.1;have x6:=hX.1;refine⟨fun _=>⟨by omega,by omega⟩,fun _=>hk63,fun _=>⟨by omega,by omega⟩,fun _=>⟨hY.2,by omega,by omega,hX.2⟩,bd (fun h=>?_) (fun h=>?_)⟩
    ·simp only[a0a,a06]at h;refine⟨by omega,by omega,hk63,by omega,by omega,by omega,by omega,hk63,by omega,by omega,hk63,hn2 _ ⟨R1++[Y],R2,by simp[r1],by dsimp only;omega,?_,?_⟩ (by dsimp only;omega)⟩
     ·rw[r3];simp[uo,h.2]
     ·simp
    ·have hb:lt X Y=false:=by
      rcases Bool.and_eq_false_iff.1 h with h|h
      ·simp only[a2n]at h;omega
      ·exact h
     refine⟨by rw[ao];(try dsimp only);omega,hn1 _ ⟨by dsimp only;omega,?_⟩ (by dsimp only;omega)⟩
     try dsimp only
     rw[ha,r3];simp[uo,hb]
  ·rw[brj (by omega)]
theorem aq8:b8 Tryz.prog 67 lh:=cg (Φ:=ary) (ai zb (ai zh (ai auf aq))) bi (by kernel_rfl) (fn:=Tryz.f67) (c:=bf Tryz.f67) (by kernel_rfl) (by kernel_rfl) (by kernel_rfl) lh rfl arb (cp [(21,13),(13,11),(14,8000055014)]) (by kernel_rfl) (by kernel_rfl) (by kernel_rfl) (by decide) (fun x K=>abw x.1 K) (fun _ _=>by kernel_rfl) (fun x h1 h2=>at8 x.1 h1 h2)
def nk:Ct:=⟨[(.int .i64),(.int .i64),(.int .i64)],[false,false,false],fun x=>[],[(false,(.fz .bool))],fun x=>(inR x.1 x.2.1 x.2.2.1,()),false,none⟩
def agv(n:Int)(low:Int)(high:Int)(K:Bool×Unit->Prop):Prop:=(K (((decide (low<=n))&&(decide (n<=high))),()))
theorem azk(n:Int)(low:Int)(high:Int)(hok:ae (okL nk.args (n,low,high,())))(hpre:ae (nk.pre (n,low,high,()))):agv n low high (fun r=>r=nk.res (n,low,high,())):=by
 simp only[nk,okL,T.oks,T.ok,ap,ae,a0e,a0c,a0h]at hok hpre
 try dsimp only[T.den]at hok hpre
 unfold agv
 grind[cnd,ck,ao,nk,inR]
theorem ae8:b8 Tryz.prog 64 nk:=cg (Φ:=lkp []) aq bi (by kernel_rfl) (fn:=Tryz.f64) (c:=bf Tryz.f64) (by kernel_rfl) (by kernel_rfl) (by kernel_rfl) nk rfl .n (cp []) (by kernel_rfl) (by kernel_rfl) (by kernel_rfl) (by decide) (fun x K=>agv x.1 x.2.1 x.2.2.1 K) (fun _ _=>by kernel_rfl) (fun x h1 h2=>azk x.1 x.2.1 x.2.2.1 h1 h2)
def jp:Ct:=⟨[(.int .i64),(.sl (.int .i64))],[false,false],fun x=>[],[(false,(.fz .bool))],fun x=>(bz x.2.1 x.1,()),false,none⟩
def avd:Ann:=(.s .n (.s (.s .n (.l [(5,(.d (.int .i64)))] [] [0,1] .n)) .n))
def ae6(n:Int)(f:List Int)(K:Bool×Unit->Prop):Prop:=(bj (S:=bsd) (fun s=>(fun next=>((inK .i64 s.1.1)->(cnd (decide (s.1.1<(f.length:Int))) ((0<=s.1.1)/\((s.1.1<(f.length:Int))/\((((decide ((f.getD s.1.1.toNat 0)<0))=false)->((s.1.1<(f.length:Int))/\(0<=s.1.1)))/\(cnd ((decide ((f.getD s.1.1.toNat 0)<0))||(decide (n<=(f.getD s.1.1.toNat 0)))) (K (false,())) ((inK .i64 (s.1.1+1))/\(next (((s.1.1+1),()),()))))))) (K (true,())))))) ((0,()),()))
theorem ayc(n:Int)(f:List Int)(hok:ae (okL jp.args (n,f,())))(hpre:ae (jp.pre (n,f,()))):ae6 n f (fun r=>r=jp.res (n,f,())):=by
 simp only[jp,okL,T.oks,T.ok,ap,ae,a0e,a0c,a0h]at hok hpre
 try dsimp only[T.den]at hok hpre
 unfold ae6;refine bw (fun (s:bsd)=>0<=s.1.1/\s.1.1<=f.length/\bz f n=bz (f.drop s.1.1.toNat) n) (fun (s:bsd)=>(f.length-s.1.1).toNat) ?_ (by simp);rintro⟨⟨i,_⟩,_⟩ next ⟨h0,h1,h2⟩ hn hin
 simp only at h0 h1 h2 hn⊢;refine au (fun hc=>?_) (fun hc=>?_)
 ·rw[mq f 0 h0 hc]at h2;simp only[bz,a3u]at h2
  grind[cnd,ck,ao,jp,bz,inR]
 ·rw[pp f (by omega)]at h2
  grind[cnd,ck,ao,jp,bz]
theorem zf:b8 Tryz.prog 65 jp:=cg (Φ:=lkp []) aq bi (by kernel_rfl) (fn:=Tryz.f65) (c:=bf Tryz.f65) (by kernel_rfl) (by kernel_rfl) (by kernel_rfl) jp rfl avd (cp []) (by kernel_rfl) (by kernel_rfl) (by kernel_rfl) (by decide) (fun x K=>ae6 x.1 x.2.1 K) (fun _ _=>by kernel_rfl) (fun x h1 h2=>ayc x.1 x.2.1 h1 h2)
def oh:Ct:=⟨[SchemaT,ak],[true,true],fun x=>[x.1.2.1.length<=x.1.2.2.1.length,inK .i64 (x.1.1-1)],[(false,(.fz .bool))],fun x=>((bg x.1 x.2.1).2,()),false,none⟩
def atf:Ann:=(.s .n (.s .n (.s .n (.s (.s .n (.l [(5,(.d (.int .i64))),(6,(.d (.int .i64)))] [] [2,3] .n)) .n))))
def atw:FuncId->Option Ct:=lkp [(64,nk),(65,jp)]
def ac0(s:ac)(p:ab)(K:Bool×Unit->Prop):Prop:=((inK .i64 (s.1-1))/\(cnd (((!(inR p.1 0 (s.1-1)))||(decide (6<(p.2.length:Int))))||(!(bz p.2 (s.2.1.length:Int)))) (K (false,())) (bj (S:=bsh) (fun s1=>(fun next=>((inK .i64 s1.1.1)->((inK .i64 s1.1.2.1)->(cnd (decide (s1.1.2.1<(p.2.length:Int))) ((0<=s1.1.2.1)/\((s1.1.2.1<(p.2.length:Int))/\((0<=(p.2.getD s1.1.2.1.toNat 0))/\(((p.2.getD s1.1.2.1.toNat 0)<(s.2.1.length:Int))/\(cnd ((s.2.1.getD (Int.toNat (p.2.getD s1.1.2.1.toNat 0)) 0) != s1.1.1) (K (false,())) ((0<=s1.1.2.1)/\((s1.1.2.1<(p.2.length:Int))/\((0<=(p.2.getD s1.1.2.1.toNat 0))/\(((p.2.getD s1.1.2.1.toNat 0)<(s.2.2.1.length:Int))/\((inK .i64 (s1.1.2.1+1))/\(next (((s.2.2.1.getD (Int.toNat (p.2.getD s1.1.2.1.toNat 0)) 0),((s1.1.2.1+1),())),())))))))))))) (K (true,()))))))) ((p.1,(0,())),()))))
theorem awm(s:ac)(p:ab)(hok:ae (okL oh.args (s,p,())))(hpre:ae (oh.pre (s,p,()))):ac0 s p (fun r=>r=oh.res (s,p,())):=by
 simp only[oh,okL,T.oks,T.ok,ap,ae,a0e,a0c,a0h]at hok hpre
 try dsimp only[T.den]at hok hpre
 unfold ac0;simp only[oh,bg]
 have key:∀(nd:Int) (l:List Int),(bq s nd l).2=true->bz l s.2.1.length=true:=by
  intro nd l
  induction l generalizing nd with
  |nil=>intro _;rfl
  |cons e l ih=>
   simp only[bq];split
   ·rename_i h;intro hf;simp only[bz,a3u];have:=ih _ hf;simp only[bz]at this;rw[this,h.1];rfl
   ·intro h;cases h
 refine⟨hpre.2,bd (fun hc=>?_) (fun hc=>?_)⟩
 ·have:=key p.1 p.2
  grind[cnd,ck,ao]
 ·simp only[inR,a2a,a2b,a0a,a06,a2n]at hc;rw[d0 ⟨by simp[inR,hc.1.1],by omega⟩];refine bw (fun (s1:bsh)=>0<=s1.1.2.1/\s1.1.2.1<=p.2.length/\bq s p.1 p.2=bq s s1.1.1 (p.2.drop s1.1.2.1.toNat)) (fun (s1:bsh)=>(p.2.length-s1.1.2.1).toNat) ?_ (by simp);rintro⟨⟨nd,i,_⟩,_⟩ next ⟨h0,h1,h2⟩ hn ha hin
  simp only at h0 h1 h2 hn⊢;refine au (fun hx=>?_) (fun hx=>?_)
  ·have hm:=a1l.1 hc.2 _ (ii p.2 0 h0 hx);rw[mq p.2 0 h0 hx]at h2;simp only[bq,hm,a0e]at h2;generalize p.2.getD i.toNat 0=e at *;simp only[inR,a0a,a06]at hm
   grind[cnd,ck,ao]
  ·rw[pp p.2 (by omega)]at h2;simp[bq,h2]
theorem at4:b8 Tryz.prog 52 oh:=cg (Φ:=atw) (ai ae8 (ai zf aq)) bi (by kernel_rfl) (fn:=Tryz.f52) (c:=bf Tryz.f52) (by kernel_rfl) (by kernel_rfl) (by kernel_rfl) oh rfl atf (cp [(7,11),(9,10)]) (by kernel_rfl) (by kernel_rfl) (by kernel_rfl) (by decide) (fun x K=>ac0 x.1 x.2.1 K) (fun _ _=>by kernel_rfl) (fun x h1 h2=>awm x.1 x.2.1 h1 h2)
theorem aji(s:ac):∀(nd:Int) (l:List Int),(bq s nd l).2=true->(bq s nd l).1=if l.length=0 then nd else s.2.2.1.getD (l.getD (l.length-1) 0).toNat 0
 |nd,[],_=>rfl
 |nd,e::r,h=>by
  simp only[bq]at h⊢;split at h
  ·rename_i hc;rw[d0 hc];rw[aji s _ r h]
   cases r with
   |nil=>simp
   |cons e' r'=>simp
  ·cases h
theorem amd(s:ac):∀(nd:Int) (l:List Int),(bq s nd l).2=true->bz l s.2.1.length=true
 |nd,[],_=>rfl
 |nd,e::r,h=>by
  simp only[bq]at h;split at h
  ·rename_i hc;have:=amd s _ r h;simp only[bz,a3u]at this⊢;rw[this,hc.1];rfl
  ·cases h
theorem iv{s:ac}{p:ab}(h:(bg s p).2=true):g7 s p=(bg s p).1/\bz p.2 s.2.1.length=true:=by
 unfold bg at h⊢;split at h
 ·rename_i hc;rw[d0 hc];exact⟨(aji s _ _ h).symm,amd s _ _ h⟩
 ·cases h
def ln:Ct:=⟨[SchemaT],[true],fun x=>[],[(false,(.fz .bool))],fun x=>(bo x.1,()),false,none⟩
def aqq:Ann:=(.s .n (.s .n (.s (.s .n (.l [(3,(.d (.int .i64)))] [] [1] .n)) .n)))
def arw:FuncId->Option Ct:=lkp [(64,nk),(65,jp),(66,kj),(52,oh)]
def abi(s:ac)(K:Bool×Unit->Prop):Prop:=(cnd (((((((!(inR s.1 0 8))||(decide (8<(s.2.1.length:Int))))||((s.2.2.1.length:Int) != (s.2.1.length:Int)))||(!(bz s.2.1 s.1)))||(!(bz s.2.2.1 s.1)))||(decide (8<(s.2.2.2.1.length:Int))))||((s.2.2.2.2.length:Int) != (s.2.2.2.1.length:Int))) (K (false,())) (bj (S:=bsd) (fun s1=>(fun next=>((inK .i64 s1.1.1)->(cnd (decide (s1.1.1<(s.2.2.2.1.length:Int))) ((0<=s1.1.1)/\((s1.1.1<(s.2.2.2.1.length:Int))/\((0<=s1.1.1)/\((s1.1.1<(s.2.2.2.2.length:Int))/\((s.2.1.length<=s.2.2.1.length)/\((inK .i64 (s.1-1))/\((((!(bg s (s.2.2.2.1.getD s1.1.1.toNat (0,[]))).2)=false)->((inK .i64 (s.1-1))/\(s.2.1.length<=s.2.2.1.length)))/\((((((!(bg s (s.2.2.2.1.getD s1.1.1.toNat (0,[]))).2)||(!(bg s (s.2.2.2.2.getD s1.1.1.toNat (0,[]))).2))||((s.2.2.2.1.getD s1.1.1.toNat (0,[])).1 != (s.2.2.2.2.getD s1.1.1.toNat (0,[])).1))=false)->((bz (s.2.2.2.1.getD s1.1.1.toNat (0,[])).2 (s.2.2.1.length:Int))=true))/\((((((!(bg s (s.2.2.2.1.getD s1.1.1.toNat (0,[]))).2)||(!(bg s (s.2.2.2.2.getD s1.1.1.toNat (0,[]))).2))||((s.2.2.2.1.getD s1.1.1.toNat (0,[])).1 != (s.2.2.2.2.getD s1.1.1.toNat (0,[])).1))=false)->((bz (s.2.2.2.2.getD s1.1.1.toNat (0,[])).2 (s.2.2.1.length:Int))=true))/\(cnd ((((!(bg s (s.2.2.2.1.getD s1.1.1.toNat (0,[]))).2)||(!(bg s (s.2.2.2.2.getD s1.1.1.toNat (0,[]))).2))||((s.2.2.2.1.getD s1.1.1.toNat (0,[])).1 != (s.2.2.2.2.getD s1.1.1.toNat (0,[])).1))||((g7 s (s.2.2.2.1.getD s1.1.1.toNat (0,[]))) != (g7 s (s.2.2.2.2.getD s1.1.1.toNat (0,[]))))) (K (false,())) ((inK .i64 (s1.1.1+1))/\(next (((s1.1.1+1),()),()))))))))))))) (K (true,())))))) ((0,()),())))
theorem aus(s:ac)(hok:ae (okL ln.args (s,())))(hpre:ae (ln.pre (s,()))):abi s (fun r=>r=ln.res (s,())):=by
 simp only[ln,okL,T.oks,T.ok,ap,ae,a0e,a0c,a0h]at hok hpre
 try dsimp only[T.den]at hok hpre
 unfold abi;refine bd (fun hc=>?_) (fun hc=>?_)
 ·grind[cnd,ck,ao,ln,bo]
 have he:bo s=vy s s.2.2.2.1 s.2.2.2.2:=by grind[cnd,ck,ao,bo]
 simp only[ln,he];simp only[inR,a2a,a2b,a0a,a06,a2n,a1f]at hc;refine bw (fun (s1:bsd)=>0<=s1.1.1/\s1.1.1<=s.2.2.2.1.length/\vy s s.2.2.2.1 s.2.2.2.2=vy s (s.2.2.2.1.drop s1.1.1.toNat) (s.2.2.2.2.drop s1.1.1.toNat)) (fun (s1:bsd)=>(s.2.2.2.1.length-s1.1.1).toNat) ?_ (by simp);rintro⟨⟨i,_⟩,_⟩ next ⟨h0,h1,h2⟩ hn hin
 simp only at h0 h1 h2 hn⊢;refine au (fun hx=>?_) (fun hx=>?_)
 ·rw[mq s.2.2.2.1 (0,[]) h0 hx,mq s.2.2.2.2 (0,[]) h0 (by omega)]at h2;simp only[vy,bfn]at h2;generalize s.2.2.2.1.getD i.toNat (0,[])=p at *;generalize s.2.2.2.2.getD i.toNat (0,[])=q at *;have ep:=@iv s p;have eq:=@iv s q;have hl:s.2.2.1.length=s.2.1.length:=by omega
  rw[hl];refine⟨by omega,by omega,by omega,by omega,by omega,by rw[ao];(try dsimp only);omega,fun _=>⟨by rw[ao];(try dsimp only);omega,by omega⟩,fun hy=>?_,fun hy=>?_,bd (fun hy=>?_) (fun hy=>?_)⟩
  ·grind[cnd,ck,ao]
  ·grind[cnd,ck,ao]
  ·grind[cnd,ck,ao]
  ·grind[cnd,ck,ao]
 ·rw[pp s.2.2.2.1 (by omega)]at h2;simp[vy,h2]
theorem aqp:b8 Tryz.prog 40 ln:=cg (Φ:=arw) (ai ae8 (ai zf (ai zh (ai at4 aq)))) bi (by kernel_rfl) (fn:=Tryz.f40) (c:=bf Tryz.f40) (by kernel_rfl) (by kernel_rfl) (by kernel_rfl) ln rfl aqq (cp [(6,2012),(7,23)]) (by kernel_rfl) (by kernel_rfl) (by kernel_rfl) (by decide) (fun x K=>abi x.1 K) (fun _ _=>by kernel_rfl) (fun x h1 h2=>aus x.1 h1 h2)
def cu(s:ac):List ab×Bool:=gi s 402 0 (d6 s.1)
theorem aqg(s:ac)(e:Int):∀(nd:Int) (l:List Int),(bq s nd l).2=true->0<=e->e<s.2.1.length->s.2.1.getD e.toNat 0=(bq s nd l).1->(bq s nd (l++[e])).2=true
 |nd,[],_,e0,e1,h2=>by simp only[bq]at h2;simp only[a2q,bq];rw[d0 ⟨pd.2 ⟨e0,by omega⟩,h2⟩]
 |nd,x::r,h,e0,e1,h2=>by
  simp only[bq]at h h2;simp only[a2e,bq];split at h
  ·rename_i hc;rw[d0 hc]at h2⊢;exact aqg s e _ r h e0 e1 h2
  ·cases h
theorem asi{s:ac}{p:ab}{e:Int}(h:(bg s p).2=true)(h6:¬p.2.length=6)(e0:0<=e)(e1:e<s.2.1.length)(h2:s.2.1.getD e.toNat 0=(bg s p).1):(bg s (p.1,p.2++[e])).2=true:=by
 unfold bg at h h2⊢;split at h
 ·rename_i hc;rw[d0 hc]at h2;rw[d0 ⟨hc.1,by have:=hc.2;rw[a0q];simp only[a0l,a0p];omega⟩];exact aqg s e _ _ h e0 e1 h2
 ·cases h
theorem az1{s:ac}{p:ab}{a:Nat}:∀{b:Nat},a<=b->(iz s p a).length<=(iz s p b).length
 |0,h=>by rw[Nat.le_zero.1 h];exact a0f _
 |b+1,h=>by
  rcases a1m b a with h1|h1
  ·rw[show a=b+1 from by omega];exact a0f _
  ·refine a09 (az1 h1) ?_;have:=@ayw s p (b:Int) (Int.natCast_nonneg b);rw[show ((b:Int)+1).toNat=b+1 from by omega,a0m]at this;rw[this,a0q];omega
theorem au2{s:ac}{p q:ab}(hp:(bg s p).2=true)(h6:¬p.2.length=6){n:Nat}(hn:n<=s.2.1.length)(h:q∈iz s p n):(bg s q).2=true:=by unfold iz at h;obtain⟨e,he,rfl⟩:=a2f.1 h;obtain⟨he,hb⟩:=a4e.1 he;obtain⟨_,h0,h1,rfl⟩:=pb.1 he;exact asi hp h6 h0 (by omega) ((a1v hb).trans (iv hp).1)
theorem za{s:ac}{p:ab}(h:(bg s p).2=true):p.2.length<=6:=by
 unfold bg at h;split at h
 ·rename_i hc;exact hc.2
 ·cases h
theorem aep{s:ac}{x:Int}(h0:0<=x)(h1:x<s.1):(bg s (x,[])).2=true:=by unfold bg;rw[d0 ⟨pd.2 ⟨h0,by dsimp only;omega⟩,by simp⟩];rfl
def m9:Sp:=⟨[(.pt SchemaT)],[false],true,fun x=>(cu x.1).2,fun x=>[0<=x.1.1,x.1.1<=400,x.1.2.1.length<=1000000,x.1.2.2.1.length=x.1.2.1.length],[(false,(.fz (.sl ak))),(false,(.fz (.er 119)))],fun x=>((cu x.1).1,false,()),[(false,(.fz (.sl ak))),(false,(.fz (.er 119)))],fun x=>([],true,())⟩
def io:Ct:=rz m9 true
def ju:Ct:=rz m9 false
def ach:Ct:=spC m9
def aae:Ann:=(.s .n (.j [(4,(.ref 800004 []))] [(800004,(.sl (.fz (.p (.int .i64) (.sl (.int .i64))))))] [0] (.s .n (.s (.s .n (.l [(4,(.ref 800004 [])),(16,(.d (.int .i64)))] [(800004,(.sl (.fz (.p (.int .i64) (.sl (.int .i64))))))] [0,15] .n)) (.s (.s .n (.l [(4,(.ref 800004 [])),(6,(.d (.int .i64)))] [(800004,(.sl (.fz (.p (.int .i64) (.sl (.int .i64))))))] [0] (.s .n (.s (.j [(4,(.ref 800004 []))] [(800004,(.sl (.fz (.p (.int .i64) (.sl (.int .i64))))))] [0,6] (.s .n (.s .n (.s .n (.l [(4,(.ref 800004 [])),(52,(.d (.int .i64)))] [(800004,(.sl (.fz (.p (.int .i64) (.sl (.int .i64))))))] [0,6,7,50,51] (.s .n (.s .n (.s (.j [(4,(.ref 800004 []))] [(800004,(.sl (.fz (.p (.int .i64) (.sl (.int .i64))))))] [0,6,7,50,51,52] .n) .n)))))))) .n)))) .n)))))
def abh:FuncId->Option Ct:=lkp [(74,gx),(77,mb)]
def vo(s:ac)(K:jc io.rt->Prop):Prop:=(ji (S:=bsg) (fun s1=>((T.ok (T.sl ak) s1.2.1)->(bj (S:=bsb) (fun s2=>(fun next=>((inK IntKind.i64 s2.1.2.1)->((T.ok (T.sl ak) s2.2.1)->(cnd (decide (s2.1.2.1<s.1)) ((eg s2.2.1.length (List.length ((s2.1.2.1,([]:List Int))::([]:List br9))) 32)/\((inK IntKind.i64 (s2.1.2.1+(1:Int)))/\(next (((),((s2.1.2.1+(1:Int)),())),((s2.2.1++((s2.1.2.1,([]:List Int))::([]:List br9))),()))))) (bj (S:=bsb) (fun s3=>(fun next1=>((inK IntKind.i64 s3.1.2.1)->((T.ok (T.sl ak) s3.2.1)->(cnd (decide (s3.1.2.1<((s3.2.1.length:Nat):Int))) (ji (S:=bsg) (fun s4=>((T.ok (T.sl ak) s4.2.1)->((inK IntKind.i64 (s3.1.2.1+(1:Int)))/\(next1 (((),((s3.1.2.1+(1:Int)),())),(s4.2.1,())))))) (fun k=>(((0:Int)<=s3.1.2.1)/\((s3.1.2.1<((s3.2.1.length:Nat):Int))/\(cnd ((((List.length (s3.2.1.getD s3.1.2.1.toNat ((0:Int),([]:List Int))).2):Nat):Int)==(6:Int)) (k (((),()),(s3.2.1,()))) (((0:Int)<=s3.1.2.1)/\((s3.1.2.1<((s3.2.1.length:Nat):Int))/\((s.2.1.length<=s.2.2.1.length)/\((inK IntKind.i64 (s.1-(1:Int)))/\(bj (S:=bsb) (fun s4=>(fun next2=>((inK IntKind.i64 s4.1.2.1)->((T.ok (T.sl ak) s4.2.1)->(cnd (decide (s4.1.2.1<((s.2.1.length:Nat):Int))) (ji (S:=bsg) (fun s5=>((T.ok (T.sl ak) s5.2.1)->((inK IntKind.i64 (s4.1.2.1+(1:Int)))/\(next2 (((),((s4.1.2.1+(1:Int)),())),(s5.2.1,())))))) (fun k1=>(((0:Int)<=s4.1.2.1)/\((s4.1.2.1<((s.2.1.length:Nat):Int))/\(cnd ((s.2.1.getD s4.1.2.1.toNat (0:Int)) != (bg s (s3.2.1.getD s3.1.2.1.toNat ((0:Int),([]:List Int)))).1) (k1 (((),()),(s4.2.1,()))) (cnd (((s4.2.1.length:Nat):Int)==(400:Int)) (K (([]:List br9),(Bool.true,()))) (((0:Int)<=s3.1.2.1)/\((s3.1.2.1<((s4.2.1.length:Nat):Int))/\(((0:Int)<=s3.1.2.1)/\((s3.1.2.1<((s4.2.1.length:Nat):Int))/\(((List.length (s4.2.1.getD s3.1.2.1.toNat ((0:Int),([]:List Int))).2)<=1099511627776)/\((eg (List.length (s4.2.1.getD s3.1.2.1.toNat ((0:Int),([]:List Int))).2) (List.length (s4.1.2.1::([]:List Int))) 8)/\((eg s4.2.1.length (List.length (((s4.2.1.getD s3.1.2.1.toNat ((0:Int),([]:List Int))).1,((s4.2.1.getD s3.1.2.1.toNat ((0:Int),([]:List Int))).2++(s4.1.2.1::([]:List Int))))::([]:List br9))) 32)/\(k1 (((),()),((s4.2.1++(((s4.2.1.getD s3.1.2.1.toNat ((0:Int),([]:List Int))).1,((s4.2.1.getD s3.1.2.1.toNat ((0:Int),([]:List Int))).2++(s4.1.2.1::([]:List Int))))::([]:List br9))),())))))))))))))))) (k (((),()),(s4.2.1,())))))))) (((),((0:Int),())),(s3.2.1,())))))))))))) (K (s3.2.1,(Bool.false,())))))))) (((),((0:Int),())),(s2.2.1,())))))))) (((),((0:Int),())),(s1.2.1,()))))) (fun k=>(k (((),()),(([]:List br9),())))))
theorem aj1(s:ac)(hok:ae (okL io.args (s,())))(hpre:ae (io.pre (s,()))):vo s (fun r=>r=io.res (s,())):=by
 simp only[io,rz,m9,okL,T.oks,T.ok,ap,ae,a0e,a0c,a0h]at hok hpre
 try dsimp only[T.den]at hok hpre
 unfold vo;obtain⟨hs,n0,n4,hf,ht⟩:=hpre;unfold cu at hs;refine il (fun (q:bsg)=>q.2.1=[]) ?_ (fun k hk=>hk _ rfl);rintro⟨_,l0,_⟩ e1;intros
 try dsimp only at e1⊢
 subst e1;refine bw (fun (q:bsb)=>0<=q.1.2.1/\q.1.2.1<=s.1/\q.2.1=d6 q.1.2.1) (fun (q:bsb)=>(s.1-q.1.2.1).toNat) ?_ ⟨by simp,n0,rfl⟩;rintro⟨⟨_,x,_⟩,l,_⟩ next ⟨x0,x1,q⟩ hnx
 intros
 try dsimp only at x0 x1 q hnx⊢
 subst q;have zl:(d6 x).length=x.toNat:=bp _;refine au (fun hx=>?_) (fun hx=>?_)
 ·refine⟨da (by rw[zl];simp only[a0l,a0p];omega),by rw[ao];(try dsimp only);omega,hnx _ ⟨by dsimp only;omega,by dsimp only;omega,?_⟩ (by dsimp only;omega)⟩
  try dsimp only
  unfold d6;rw[vr x0]
 have ex:x=s.1:=by omega
 subst ex;clear hnx;have hz0:∀p∈d6 s.1,(bg s p).2=true:=by intro p hp;unfold d6 at hp;obtain⟨e,h0,h1,rfl⟩:=pb.1 hp;exact aep h0 (by omega)
 refine bw (fun (q:bsb)=>0<=q.1.2.1/\q.1.2.1<=400/\gi s 402 0 (d6 s.1)=gi s (402-q.1.2.1).toNat q.1.2.1.toNat q.2.1/\(∀p∈q.2.1,(bg s p).2=true)/\q.2.1.length<=400) (fun (q:bsb)=>(400-q.1.2.1).toNat) ?_ ⟨by simp,by simp,rfl,hz0,by dsimp only;omega⟩;rintro⟨⟨_,k,_⟩,L,_⟩ next ⟨k0,k41,hg,hp,hL⟩ hnx
 intros
 try dsimp only at k0 k41 hg hp hL hnx⊢
 refine au (fun hc=>?_) (fun hc=>?_)
 ·have hpk:=hp _ (ii L (0,[]) k0 hc);have hgk:gi s 402 0 (d6 s.1)=(if (L.getD k.toNat (0,[])).2.length=6 then gi s (402-(k+1)).toNat (k+1).toNat L else if 400<(L++iz s (L.getD k.toNat (0,[])) s.2.1.length).length then ([],false)else gi s (402-(k+1)).toNat (k+1).toNat (L++iz s (L.getD k.toNat (0,[])) s.2.1.length)):=by rw[hg,show (402-k).toNat=(402-(k+1)).toNat+1 from by omega,show (k+1).toNat=k.toNat+1 from by omega];rw[gi,d0 (by omega)]
  refine il (fun (q:bsg)=>gi s 402 0 (d6 s.1)=gi s (402-(k+1)).toNat (k+1).toNat q.2.1/\(∀p∈q.2.1,(bg s p).2=true)/\q.2.1.length<=400) ?_ ?_
  ·rintro⟨_,M,_⟩ ⟨m1,m2,m3⟩;intros
   try dsimp only at m1 m2 m3⊢
   exact⟨by rw[ao];(try dsimp only);omega,hnx _ ⟨by dsimp only;omega,by dsimp only;omega,m1,m2,m3⟩ (by dsimp only;omega)⟩
  intro kk hkk;generalize hP:L.getD k.toNat (0,[])=P at *;refine⟨k0,hc,bd (fun h6=>?_) (fun h6=>?_)⟩
  ·have h6:P.2.length=6:=by have:=a1v h6;omega
   rw[d0 h6]at hgk;exact hkk _ ⟨hgk,hp,hL⟩
  have h6:¬P.2.length=6:=by have:=a18.1 h6;omega
  rw[ds h6]at hgk;refine⟨k0,hc,by omega,by rw[ao];(try dsimp only);omega,?_⟩;refine bw (fun (q:bsb)=>0<=q.1.2.1/\q.1.2.1<=s.2.1.length/\q.2.1=L++iz s P q.1.2.1.toNat/\q.2.1.length<=400) (fun (q:bsb)=>(s.2.1.length-q.1.2.1).toNat) ?_ ⟨by simp,by simp,by simp[iz,dx],hL⟩;rintro⟨⟨_,e,_⟩,M,_⟩ next1 ⟨e0,e1,q,hM⟩ hn1;intros
  try dsimp only at e0 e1 q hM hn1⊢
  subst q;have hMk:k<(L++iz s P e.toNat).length:=by rw[a0q];omega
  have hG:(L++iz s P e.toNat).getD k.toNat (0,[])=P:=by rw[avt (by omega),hP]
  have hE:=@ayw s P e e0;rw[hG];have hp6:=za hpk;refine au (fun he=>?_) (fun he=>?_)
  ·refine il (fun (q:bsg)=>q.2.1=L++iz s P (e+1).toNat/\q.2.1.length<=400) ?_ ?_
   ·rintro⟨_,M2,_⟩ ⟨q2,q3⟩;intros
    try dsimp only at q2 q3⊢
    subst q2;exact⟨by rw[ao];(try dsimp only);omega,hn1 _ ⟨by dsimp only;omega,by dsimp only;omega,rfl,q3⟩ (by dsimp only;omega)⟩
   ·intro k1 hk1;rw[hE]at hk1;refine⟨e0,he,bd (fun hb=>?_) (fun hb=>?_)⟩
    ·have hb:¬(s.2.1.getD e.toNat 0==g7 s P)=true:=by rw[(iv hpk).1];intro h;rw[a1v h]at hb;simp at hb
     rw[ds hb,a2h]at hk1;exact hk1 _ ⟨rfl,hM⟩
    ·have hb:(s.2.1.getD e.toNat 0==g7 s P)=true:=by rw[(iv hpk).1];exact a0t.2 (a1f.1 hb)
     rw[d0 hb]at hk1 hE;refine bd (fun h4=>?_) (fun h4=>?_)
     ·have h4:=a1v h4;have hbig:400<(L++iz s P s.2.1.length).length:=by have:=@az1 s P (e+1).toNat s.2.1.length (by omega);rw[hE]at this;simp only[a0q,a0l,a0p]at this h4⊢;omega
      rw[d0 hbig]at hgk;rw[hgk]at hs;cases hs
     ·have h4:=a18.1 h4;refine⟨k0,hMk,k0,hMk,by omega,da (by simp only[a0l,a0p];omega),da (by simp only[a0l,a0p];omega),hk1 _ ⟨a08 _ _ _,?_⟩⟩;rw[a0q];simp only[a0l,a0p];omega
  ·have ee:e=s.2.1.length:=by omega
   subst ee;rw[a0m]at hM⊢;rw[ds (by omega)]at hgk;refine hkk _ ⟨hgk,fun p hp'=>?_,hM⟩;rcases a05.1 hp' with h|h
   ·exact hp p h
   ·exact au2 hpk h6 (a0f _) h
 ·have hgl:gi s 402 0 (d6 s.1)=(L,true):=by rw[hg,show (402-k).toNat=(401-k).toNat+1 from by omega,gi,ds (by omega)]
  simp only[io,rz,m9,cu];rw[hgl]
theorem aje:b8 Tryz.prog 110 io:=cg (Φ:=abh) (ai og (ai ri aq)) bi (by kernel_rfl) (fn:=Tryz.f110) (c:=bf Tryz.f110) (by kernel_rfl) (by kernel_rfl) (by kernel_rfl) io rfl aae (cp [(18,8000055014)]) (by kernel_rfl) (by kernel_rfl) (by kernel_rfl) (by decide) (fun x K=>vo x.1 K) (fun _ _=>by kernel_rfl) (fun x h1 h2=>aj1 x.1 h1 h2)
def vq(s:ac)(K:jc ju.rt->Prop):Prop:=(ji (S:=bsg) (fun s1=>((T.ok (T.sl ak) s1.2.1)->(bj (S:=bsb) (fun s2=>(fun next=>((inK IntKind.i64 s2.1.2.1)->((T.ok (T.sl ak) s2.2.1)->(cnd (decide (s2.1.2.1<s.1)) ((eg s2.2.1.length (List.length ((s2.1.2.1,([]:List Int))::([]:List br9))) 32)/\((inK IntKind.i64 (s2.1.2.1+(1:Int)))/\(next (((),((s2.1.2.1+(1:Int)),())),((s2.2.1++((s2.1.2.1,([]:List Int))::([]:List br9))),()))))) (bj (S:=bsb) (fun s3=>(fun next1=>((inK IntKind.i64 s3.1.2.1)->((T.ok (T.sl ak) s3.2.1)->(cnd (decide (s3.1.2.1<((s3.2.1.length:Nat):Int))) (ji (S:=bsg) (fun s4=>((T.ok (T.sl ak) s4.2.1)->((inK IntKind.i64 (s3.1.2.1+(1:Int)))/\(next1 (((),((s3.1.2.1+(1:Int)),())),(s4.2.1,())))))) (fun k=>(((0:Int)<=s3.1.2.1)/\((s3.1.2.1<((s3.2.1.length:Nat):Int))/\(cnd ((((List.length (s3.2.1.getD s3.1.2.1.toNat ((0:Int),([]:List Int))).2):Nat):Int)==(6:Int)) (k (((),()),(s3.2.1,()))) (((0:Int)<=s3.1.2.1)/\((s3.1.2.1<((s3.2.1.length:Nat):Int))/\((s.2.1.length<=s.2.2.1.length)/\((inK IntKind.i64 (s.1-(1:Int)))/\(bj (S:=bsb) (fun s4=>(fun next2=>((inK IntKind.i64 s4.1.2.1)->((T.ok (T.sl ak) s4.2.1)->(cnd (decide (s4.1.2.1<((s.2.1.length:Nat):Int))) (ji (S:=bsg) (fun s5=>((T.ok (T.sl ak) s5.2.1)->((inK IntKind.i64 (s4.1.2.1+(1:Int)))/\(next2 (((),((s4.1.2.1+(1:Int)),())),(s5.2.1,())))))) (fun k1=>(((0:Int)<=s4.1.2.1)/\((s4.1.2.1<((s.2.1.length:Nat):Int))/\(cnd ((s.2.1.getD s4.1.2.1.toNat (0:Int)) != (bg s (s3.2.1.getD s3.1.2.1.toNat ((0:Int),([]:List Int)))).1) (k1 (((),()),(s4.2.1,()))) (cnd (((s4.2.1.length:Nat):Int)==(400:Int)) (K (([]:List br9),(Bool.true,()))) (((0:Int)<=s3.1.2.1)/\((s3.1.2.1<((s4.2.1.length:Nat):Int))/\(((0:Int)<=s3.1.2.1)/\((s3.1.2.1<((s4.2.1.length:Nat):Int))/\(((List.length (s4.2.1.getD s3.1.2.1.toNat ((0:Int),([]:List Int))).2)<=1099511627776)/\((eg (List.length (s4.2.1.getD s3.1.2.1.toNat ((0:Int),([]:List Int))).2) (List.length (s4.1.2.1::([]:List Int))) 8)/\((eg s4.2.1.length (List.length (((s4.2.1.getD s3.1.2.1.toNat ((0:Int),([]:List Int))).1,((s4.2.1.getD s3.1.2.1.toNat ((0:Int),([]:List Int))).2++(s4.1.2.1::([]:List Int))))::([]:List br9))) 32)/\(k1 (((),()),((s4.2.1++(((s4.2.1.getD s3.1.2.1.toNat ((0:Int),([]:List Int))).1,((s4.2.1.getD s3.1.2.1.toNat ((0:Int),([]:List Int))).2++(s4.1.2.1::([]:List Int))))::([]:List br9))),())))))))))))))))) (k (((),()),(s4.2.1,())))))))) (((),((0:Int),())),(s3.2.1,())))))))))))) (K (s3.2.1,(Bool.false,())))))))) (((),((0:Int),())),(s2.2.1,())))))))) (((),((0:Int),())),(s1.2.1,()))))) (fun k=>(k (((),()),(([]:List br9),())))))
theorem ajw(s:ac)(hok:ae (okL ju.args (s,())))(hpre:ae (ju.pre (s,()))):vq s (fun r=>r=ju.res (s,())):=by
 simp only[ju,rz,m9,okL,T.oks,T.ok,ap,ae,a0e,a0c,a0h]at hok hpre
 try dsimp only[T.den]at hok hpre
 unfold vq;obtain⟨hs,n0,n4,hf,ht⟩:=hpre;unfold cu at hs;refine il (fun (q:bsg)=>q.2.1=[]) ?_ (fun k hk=>hk _ rfl);rintro⟨_,l0,_⟩ e1;intros
 try dsimp only at e1⊢
 subst e1;refine bw (fun (q:bsb)=>0<=q.1.2.1/\q.1.2.1<=s.1/\q.2.1=d6 q.1.2.1) (fun (q:bsb)=>(s.1-q.1.2.1).toNat) ?_ ⟨by simp,n0,rfl⟩;rintro⟨⟨_,x,_⟩,l,_⟩ next ⟨x0,x1,q⟩ hnx
 intros
 try dsimp only at x0 x1 q hnx⊢
 subst q;have zl:(d6 x).length=x.toNat:=bp _;refine au (fun hx=>?_) (fun hx=>?_)
 ·refine⟨da (by rw[zl];simp only[a0l,a0p];omega),by rw[ao];(try dsimp only);omega,hnx _ ⟨by dsimp only;omega,by dsimp only;omega,?_⟩ (by dsimp only;omega)⟩
  try dsimp only
  unfold d6;rw[vr x0]
 have ex:x=s.1:=by omega
 subst ex;clear hnx;have hz0:∀p∈d6 s.1,(bg s p).2=true:=by intro p hp;unfold d6 at hp;obtain⟨e,h0,h1,rfl⟩:=pb.1 hp;exact aep h0 (by omega)
 refine bw (fun (q:bsb)=>0<=q.1.2.1/\q.1.2.1<=400/\gi s 402 0 (d6 s.1)=gi s (402-q.1.2.1).toNat q.1.2.1.toNat q.2.1/\(∀p∈q.2.1,(bg s p).2=true)/\q.2.1.length<=400) (fun (q:bsb)=>(400-q.1.2.1).toNat) ?_ ⟨by simp,by simp,rfl,hz0,by dsimp only;omega⟩;rintro⟨⟨_,k,_⟩,L,_⟩ next ⟨k0,k41,hg,hp,hL⟩ hnx
 intros
 try dsimp only at k0 k41 hg hp hL hnx⊢
 refine au (fun hc=>?_) (fun hc=>?_)
 ·have hpk:=hp _ (ii L (0,[]) k0 hc);have hgk:gi s 402 0 (d6 s.1)=(if (L.getD k.toNat (0,[])).2.length=6 then gi s (402-(k+1)).toNat (k+1).toNat L else if 400<(L++iz s (L.getD k.toNat (0,[])) s.2.1.length).length then ([],false)else gi s (402-(k+1)).toNat (k+1).toNat (L++iz s (L.getD k.toNat (0,[])) s.2.1.length)):=by rw[hg,show (402-k).toNat=(402-(k+1)).toNat+1 from by omega,show (k+1).toNat=k.toNat+1 from by omega];rw[gi,d0 (by omega)]
  refine il (fun (q:bsg)=>gi s 402 0 (d6 s.1)=gi s (402-(k+1)).toNat (k+1).toNat q.2.1/\(∀p∈q.2.1,(bg s p).2=true)/\q.2.1.length<=400) ?_ ?_
  ·rintro⟨_,M,_⟩ ⟨m1,m2,m3⟩;intros
   try dsimp only at m1 m2 m3⊢
   exact⟨by rw[ao];(try dsimp only);omega,hnx _ ⟨by dsimp only;omega,by dsimp only;omega,m1,m2,m3⟩ (by dsimp only;omega)⟩
  intro kk hkk;generalize hP:L.getD k.toNat (0,[])=P at *;refine⟨k0,hc,bd (fun h6=>?_) (fun h6=>?_)⟩
  ·have h6:P.2.length=6:=by have:=a1v h6;omega
   rw[d0 h6]at hgk;exact hkk _ ⟨hgk,hp,hL⟩
  have h6:¬P.2.length=6:=by have:=a18.1 h6;omega
  rw[ds h6]at hgk;refine⟨k0,hc,by omega,by rw[ao];(try dsimp only);omega,?_⟩;refine bw (fun (q:bsb)=>0<=q.1.2.1/\q.1.2.1<=s.2.1.length/\q.2.1=L++iz s P q.1.2.1.toNat/\q.2.1.length<=400) (fun (q:bsb)=>(s.2.1.length-q.1.2.1).toNat) ?_ ⟨by simp,by simp,by simp[iz,dx],hL⟩;rintro⟨⟨_,e,_⟩,M,_⟩ next1 ⟨e0,e1,q,hM⟩ hn1;intros
  try dsimp only at e0 e1 q hM hn1⊢
  subst q;have hMk:k<(L++iz s P e.toNat).length:=by rw[a0q];omega
  have hG:(L++iz s P e.toNat).getD k.toNat (0,[])=P:=by rw[avt (by omega),hP]
  have hE:=@ayw s P e e0;rw[hG];have hp6:=za hpk;refine au (fun he=>?_) (fun he=>?_)
  ·refine il (fun (q:bsg)=>q.2.1=L++iz s P (e+1).toNat/\q.2.1.length<=400) ?_ ?_
   ·rintro⟨_,M2,_⟩ ⟨q2,q3⟩;intros
    try dsimp only at q2 q3⊢
    subst q2;exact⟨by rw[ao];(try dsimp only);omega,hn1 _ ⟨by dsimp only;omega,by dsimp only;omega,rfl,q3⟩ (by dsimp only;omega)⟩
   ·intro k1 hk1;rw[hE]at hk1;refine⟨e0,he,bd (fun hb=>?_) (fun hb=>?_)⟩
    ·have hb:¬(s.2.1.getD e.toNat 0==g7 s P)=true:=by rw[(iv hpk).1];intro h;rw[a1v h]at hb;simp at hb
     rw[ds hb,a2h]at hk1;exact hk1 _ ⟨rfl,hM⟩
    ·have hb:(s.2.1.getD e.toNat 0==g7 s P)=true:=by rw[(iv hpk).1];exact a0t.2 (a1f.1 hb)
     rw[d0 hb]at hk1 hE;refine bd (fun h4=>?_) (fun h4=>?_)
     ·have h4:=a1v h4;have hbig:400<(L++iz s P s.2.1.length).length:=by have:=@az1 s P (e+1).toNat s.2.1.length (by omega);rw[hE]at this;simp only[a0q,a0l,a0p]at this h4⊢;omega
      rw[d0 hbig]at hgk;rfl
     ·have h4:=a18.1 h4;refine⟨k0,hMk,k0,hMk,by omega,da (by simp only[a0l,a0p];omega),da (by simp only[a0l,a0p];omega),hk1 _ ⟨a08 _ _ _,?_⟩⟩;rw[a0q];simp only[a0l,a0p];omega
  ·have ee:e=s.2.1.length:=by omega
   subst ee;rw[a0m]at hM⊢;rw[ds (by omega)]at hgk;refine hkk _ ⟨hgk,fun p hp'=>?_,hM⟩;rcases a05.1 hp' with h|h
   ·exact hp p h
   ·exact au2 hpk h6 (a0f _) h
 ·have hgl:gi s 402 0 (d6 s.1)=(L,true):=by rw[hg,show (402-k).toNat=(401-k).toNat+1 from by omega,gi,ds (by omega)]
  rw[hgl]at hs;cases hs
theorem aiy:b8 Tryz.prog 110 ju:=cg (Φ:=abh) (ai og (ai ri aq)) bi (by kernel_rfl) (fn:=Tryz.f110) (c:=bf Tryz.f110) (by kernel_rfl) (by kernel_rfl) (by kernel_rfl) ju rfl aae (cp [(18,8000055014)]) (by kernel_rfl) (by kernel_rfl) (by kernel_rfl) (by decide) (fun x K=>vq x.1 K) (fun _ _=>by kernel_rfl) (fun x h1 h2=>ajw x.1 h1 h2)
theorem acd:b8 Tryz.prog 110 ach:=aza aje aiy
def g6{α:Type}[DecidableEq α]:List α->α->Int
 |[],_=>-1
 |a::r,x=>if a=x then 0 else (if g6 r x<0 then -1 else g6 r x+1)
theorem q6{α:Type}[DecidableEq α](z:α):∀{l:List α} {x:α},(x∈l->0<=g6 l x/\g6 l x<l.length/\l.getD (g6 l x).toNat z=x/\∀i:Int,0<=i->i<g6 l x->l.getD i.toNat z≠x)/\(x∉l->g6 l x=-1)
 |[],x=>by simp[g6]
 |a::r,x=>by
  have ih:=@q6 α _ z r x;rw[g6];by_cases h:a=x
  ·subst h;simp only[a00,a0s,true_or,not_true_eq_false,false_implies,a0c,true_implies];exact⟨a0r _,by simp,rfl,fun i i0 i1=>by omega⟩
  ·rw[ds h];simp only[a0s,not_or];refine⟨fun hm=>?_,fun hm=>?_⟩
   ·have hm:x∈r:=hm.resolve_left fun e=>h e.symm;obtain⟨h0,h1,h2,h3⟩:=ih.1 hm;rw[ds (by omega)];have e:(g6 r x+1).toNat=(g6 r x).toNat+1:=by omega
    refine⟨by omega,by simp only[a0l];omega,by rw[e,a4z];exact h2,fun i i0 i1=>?_⟩;by_cases hi:i=0
    ·rw[hi];exact h
    ·have e:i.toNat=(i-1).toNat+1:=by omega
     rw[e,a4z];exact h3 (i-1) (by omega) (by omega)
   ·rw[ih.2 hm.2,d0 (by omega)]
theorem ato{α:Type}[DecidableEq α]{z:α}{l:List α}{x:α}{i:Int}(i0:0<=i)(i1:i<l.length)(h:l.getD i.toNat z=x)(hn:∀k:Int,0<=k->k<i->l.getD k.toNat z≠x):g6 l x=i:=by
 have hm:x∈l:=h▸ii l z i0 i1;obtain⟨h0,h1,h2,h3⟩:=(q6 z).1 hm;rcases Int.lt_trichotomy (g6 l x) i with hl|hl|hl
 ·exact absurd h2 (hn _ h0 hl)
 ·exact hl
 ·exact absurd h (h3 i i0 hl)
theorem bo5{α:Type}[DecidableEq α]{z:α}{l:List α}{x:α}(hn:∀k:Int,0<=k->k<l.length->l.getD k.toNat z≠x):g6 l x=-1:=by refine (q6 z).2 fun hm=>?_;obtain⟨h0,h1,h2,_⟩:=(q6 z).1 hm;exact hn _ h0 h1 h2
def lx(s:List Int)(k:Int):List Int:=if g6 s k<0 then s++[k]else s
def ia(l:List Int):List Int:=l.foldl lx []
def cr(l:List Int):List Int:=l.map (g6 (ia l))
theorem bej{s:List Int}{k:Int}(r:List Int)(h:0<=g6 s k):g6 (s++r) k=g6 s k:=by
 have hm:k∈s:=a3s fun hn=>by have:=(q6 (0:Int)).2 hn;omega
 obtain⟨h0,h1,h2,h3⟩:=(q6 (0:Int)).1 hm;have hg:∀i:Int,0<=i->i<s.length->(s++r).getD i.toNat 0=s.getD i.toNat 0:=fun i i0 i1=>by simp only[a0n];rw[a1g (by omega)]
 refine ato (z:=(0:Int)) h0 (by rw[a0q];omega) (by rw[hg _ h0 h1];exact h2) fun i i0 i1=>?_;rw[hg i i0 (by omega)];exact h3 i i0 i1
theorem bd1:∀(l:List Int) (s:List Int),∃r,l.foldl lx s=s++r
 |[],s=>⟨[],by simp⟩
 |k::l,s=>by
  obtain⟨r,hr⟩:=bd1 l (lx s k);rw[a12,hr];unfold lx;split
  ·exact⟨k::r,by simp⟩
  ·exact⟨r,rfl⟩
theorem apt:∀(l:List Int) (s:List Int),(l.foldl lx s).length<=s.length+l.length
 |[],s=>by simp
 |k::l,s=>by
  have:=apt l (lx s k);rw[a12,a0l];have h2:(lx s k).length<=s.length+1:=by unfold lx;split <;> simp
  omega
theorem ayu{l:List Int}{i:Int}(i0:0<=i)(i1:i<l.length):ia (l.take (i+1).toNat)=lx (ia (l.take i.toNat)) (l.getD i.toNat 0):=by rw[jz l 0 i0 i1];unfold ia;rw[a3g];rfl
theorem aj8{l:List Int}{n:Nat}{k:Int}(h:0<=g6 (ia (l.take n)) k):g6 (ia l) k=g6 (ia (l.take n)) k:=by
 obtain⟨r,hr⟩:=bd1 (l.drop n) (ia (l.take n))
 have:ia l=ia (l.take n)++r:=by
  rw[←hr]
  conv=>lhs;rw[←a1x n l]
  unfold ia;rw[a3g]
 rw[this,bej r h]
theorem awx{s:List Int}{k:Int}(h:g6 s k<0):g6 (s++[k]) k=s.length:=by
 have hm:k∉s:=fun hm=>by have:=((q6 (0:Int)).1 hm).1;omega
 refine ato (z:=(0:Int)) (by omega) (by simp only[a0q,a0l,a0p];omega) (by simp[a0n]) fun i i0 i1=>?_;simp only[a0n];rw[a1g (by omega)];intro e;exact hm (e▸(by rw[←a0n];exact ii s 0 i0 i1))
structure NumM (m:List (Int×Int)) (s:List Int):Prop where
 n:m.length=s.length
 f:∀k:Int,rp (.int .i64) (.int .i64) m k=if g6 s k<0 then none else some (g6 s k)
theorem axp{x y z:Int}:∀{l:List (Int×Int)},rp (.int .i64) (.int .i64) (jl (.int .i64) (.int .i64) l x z) y=if y=x then some z else rp (.int .i64) (.int .i64) l y
 |[]=>by
  show rp (.int .i64) (.int .i64) [(x,z)] y=_;rw[jb];by_cases h:y=x
  ·rw[d0 (e9.2 h),d0 h]
  ·rw[ds (fun e=>h (e9.1 e)),ds h]
 |e::r=>by
  have ih:=@axp x y z r;unfold jl;by_cases h:eqR (.int .i64) x e.1=true
  ·rw[d0 h,jb,jb];have e1:=e9.1 h;rw[←e1];by_cases h2:y=x
   ·rw[d0 (e9.2 h2),d0 h2]
   ·rw[ds (fun e=>h2 (e9.1 e)),ds h2,ds (fun e=>h2 (e9.1 e))]
  ·rw[ds h,jb,jb,ih];by_cases h2:eqR (.int .i64) y e.1=true
   ·rw[d0 h2,d0 h2,ds];intro h3;exact h (e9.2 (h3▸e9.1 h2))
   ·rw[ds h2,ds h2]
theorem NumM.add{m:List (Int×Int)}{s:List Int}(h:NumM m s){k:Int}(hk:g6 s k<0):NumM (jl (.int .i64) (.int .i64) m k m.length) (s++[k]):=by
 have hno:k∉m.map (·.1):=fun hm=>by
  have:∀{l:List (Int×Int)},k∈l.map (·.1)->rp (.int .i64) (.int .i64) l k≠none:=by
   intro l
   induction l with
   |nil=>intro h;simp at h
   |cons e r ih=>
    intro hm;rw[jb];split
    ·simp
    ·rename_i h1;rcases a0s.1 hm with h2|h2
     ·exact absurd (e9.2 h2) h1
     ·exact ih h2
  have:=this hm;rw[h.f,d0 hk]at this;exact this rfl
 refine⟨?_,fun y=>?_⟩
 ·have:=@baa (.int .i64) (.int .i64) k m.length m hno;rw[this,a0q,h.n];rfl
 ·rw[axp];by_cases e:y=k
  ·subst e;rw[d0 rfl,awx hk,ds (by omega),h.n]
  ·rw[ds e,h.f];by_cases hy:g6 s y<0
   ·have hn:y∉s:=fun hm=>by have:=((q6 (0:Int)).1 hm).1;omega
    have:g6 (s++[k]) y=-1:=(q6 (0:Int)).2 (by simp[hn,e]);rw[d0 hy,this,d0 (by omega)]
   ·rw[bej _ (by omega)]
def pj:Ct:=⟨[(.sl (.int .i64))],[false],fun x=>[x.1.length<=1099511627776],[(false,(.sl (.fz (.int .i64))))],fun x=>(cr x.1,()),false,none⟩
def au9:Ann:=(.s .n (.s .n (.s .n (.s (.s .n (.l [(3,(.ref 9 [])),(4,(.ref 12 [])),(15,(.d (.int .i64)))] [(9,(.mp (.int .i64) (.int .i64))),(12,(.sl (.fz (.int .i64))))] [13,14] (.s .n (.s .n (.s (.s .n (.s .n (.s (.s .n (.j [(3,(.ref 9 [])),(4,(.ref 12 [])),(7,(.d (.int .i64)))] [(9,(.mp (.int .i64) (.int .i64))),(12,(.sl (.fz (.int .i64))))] [5,13,14,15] .n)) .n))) .n))))) .n))))
def ae4(labels:List Int)(K:(List Int)×Unit->Prop):Prop:=((0<=(labels.length:Int))/\(((labels.length:Int)<=(labels.length:Int))/\(((labels.length:Int)<=((140737488355328:Nat):Int))/\((((labels.length:Int)*((8:Nat):Int))<=((140737488355328:Nat):Int))/\(bj (S:=bsm) (fun s=>(fun next=>((inK .i64 s.1.2.2.1)->((T.ok (T.mp (.int .i64) (.int .i64)) s.2.1)->((T.ok (.sl (.int .i64)) s.2.2.1)->(cnd (decide (s.1.2.2.1<(labels.length:Int))) ((0<=s.1.2.2.1)/\((s.1.2.2.1<(labels.length:Int))/\(ji (S:=bsm) (fun s1=>((inK .i64 s1.1.2.2.1)->((T.ok (T.mp (.int .i64) (.int .i64)) s1.2.1)->((T.ok (.sl (.int .i64)) s1.2.2.1)->((0<=s.1.2.2.1)/\((s.1.2.2.1<(s1.2.2.1.length:Int))/\((inK .i64 (s.1.2.2.1+1))/\(next (((),((),((s.1.2.2.1+1),()))),(s1.2.1,((List.set s1.2.2.1 s.1.2.2.1.toNat s1.1.2.2.1),()))))))))))) (fun k=>(cnd (!(ais (.int .i64) (.int .i64) s.2.1 (labels.getD s.1.2.2.1.toNat 0))) ((eg s.2.1.length 1 1)/\(k (((),((),((s.2.1.length:Int),()))),((jl (.int .i64) (.int .i64) s.2.1 (labels.getD s.1.2.2.1.toNat 0) (s.2.1.length:Int)),(s.2.2.1,()))))) (k (((),((),((qh (.int .i64) (.int .i64) s.2.1 (labels.getD s.1.2.2.1.toNat 0)),()))),(s.2.1,(s.2.2.1,()))))))))) (K (s.2.2.1,())))))))) (((),((),(0,()))),(([]:List (Int×Int)),((List.replicate (Int.toNat (labels.length:Int)) (0:Int)),()))))))))
theorem ayi(labels:List Int)(hok:ae (okL pj.args (labels,())))(hpre:ae (pj.pre (labels,()))):ae4 labels (fun r=>r=pj.res (labels,())):=by
 simp only[pj,okL,T.oks,T.ok,ap,ae,a0e,a0c,a0h]at hok hpre
 try dsimp only[T.den]at hok hpre
 unfold ae4;have hl:labels.length<=1099511627776:=hpre;clear hok;refine⟨by omega,a0r _,by omega,by omega,?_⟩;rw[a0m,age];refine bw (fun (s:bsm)=>0<=s.1.2.2.1/\s.1.2.2.1<=labels.length/\NumM s.2.1 (ia (labels.take s.1.2.2.1.toNat))/\s.2.2.1=dx labels.length fun k=>if k<s.1.2.2.1 then g6 (ia labels) (labels.getD k.toNat 0)else 0) (fun (s:bsm)=>(labels.length-s.1.2.2.1).toNat) ?_ ⟨by simp,by simp,⟨rfl,fun k=>rfl⟩,di fun k k0 _=>by dsimp only;rw[ds (by omega)]⟩;rintro⟨⟨_,_,i,_⟩,m,out,_⟩ next ⟨i0,i1,hM,ho⟩ hn _ _ _
 try dsimp only at i0 i1 hM ho hn⊢
 refine au (fun hc=>?_) (fun hc=>?_)
 ·have hs:=@ayu labels i i0 hc;have hex:=@aj8 labels (i+1).toNat (labels.getD i.toNat 0);have hml:m.length<=labels.length:=by rw[hM.n];have:=apt (labels.take i.toNat) [];rw[a1c]at this;simp only[a0p]at this;unfold ia;omega
  have hout:∀v:Int,v=g6 (ia labels) (labels.getD i.toNat 0)->out.set i.toNat v=dx labels.length fun k=>if k<i+1 then g6 (ia labels) (labels.getD k.toNat 0)else 0:=fun v hv=>by
   rw[ho,y7 i0 hc];refine di fun k k0 k1=>?_;by_cases h:k=i
   ·rw[d0 h,d0 (by omega),hv,h]
   ·rw[ds h];by_cases h2:k<i
    ·rw[d0 h2,d0 (by omega)]
    ·rw[ds h2,ds (by omega)]
  have hol:i<(out.length:Int):=by rw[ho,bp];exact hc
  rw[hs]at hex;generalize labels.getD i.toNat 0=k at *;refine⟨i0,hc,?_⟩;refine il (fun (s:bsm)=>NumM s.2.1 (lx (ia (labels.take i.toNat)) k)/\s.1.2.2.1=g6 (ia labels) k/\s.2.2.1=out) (fun s ⟨s1,s2,s3⟩ _ _ _=>⟨i0,by rw[s3];exact hol,by rw[ao];(try dsimp only);omega,hn _ ⟨by dsimp only;omega,by dsimp only;omega,by dsimp only;rw[hs];exact s1,by dsimp only;rw[s3];exact hout _ s2⟩ (by dsimp only;omega)⟩) (fun kk hk=>?_);have hf:=hM.f k;refine bd (fun hx=>?_) (fun hx=>?_)
  ·have hneg:g6 (ia (labels.take i.toNat)) k<0:=by refine a3s fun h=>?_;rw[ds h]at hf;simp[ais,hf]at hx
   have hd:lx (ia (labels.take i.toNat)) k=ia (labels.take i.toNat)++[k]:=by unfold lx;rw[d0 hneg]
   have hi:=awx hneg;rw[hd]at hex hk;rw[hi]at hex;refine⟨by unfold eg;rw[ck];omega,hk _ ⟨hM.add hneg,?_,rfl⟩⟩
   try dsimp only
   rw[hex (by omega),hM.n]
  ·have hpos:¬g6 (ia (labels.take i.toNat)) k<0:=fun h=>by rw[d0 h]at hf;simp[ais,hf]at hx
   have hd:lx (ia (labels.take i.toNat)) k=ia (labels.take i.toNat):=by unfold lx;rw[ds hpos]
   rw[ds hpos]at hf;rw[hd]at hex hk;refine hk _ ⟨hM,?_,rfl⟩
   try dsimp only
   rw[hex (by omega)];unfold qh;rw[hf];rfl
 ·have e:i=labels.length:=by omega
  subst e;simp only[pj,cr];rw[ho];congr 1;apply a15;intro k;rw[a1a];by_cases hk:k<labels.length
  ·have h1:=@pc Int (fun k=>if k<(labels.length:Int)then g6 (ia labels) (labels.getD k.toNat 0)else 0) 0 k labels.length (by omega) (by omega);rw[a0m,d0 (by omega),a0n,a0o (by rw[bp];exact hk)]at h1;rw[a0o (by rw[bp];exact hk),a0o hk];simp only[a01]at h1;rw[h1,a0n,a0o hk];rfl
  ·rw[a1q (by rw[bp];omega),a1q (by omega)];rfl
theorem ava:b8 Tryz.prog 130 pj:=cg (Φ:=lkp []) aq bi (by kernel_rfl) (fn:=Tryz.f130) (c:=bf Tryz.f130) (by kernel_rfl) (by kernel_rfl) (by kernel_rfl) pj rfl au9 (cp []) (by kernel_rfl) (by kernel_rfl) (by kernel_rfl) (by decide) (fun x K=>ae4 x.1 K) (fun _ _=>by kernel_rfl) (fun x h1 h2=>ayi x.1 h1 h2)
def ew(j:List Int):List Int:=dx j.length (eh j)
def aua(j:List Int):Nat->List Int
 |0=>j
 |n+1=>(c6 (aua j n) n).1
def bpn(j:List Int):List Int:=aua j j.length
def gf:Wt:=⟨(.sl (.fz (.int .i64))),[],[],fun x y=>[UfP x,x.length<=1099511627776],fun x y=>bpn x,[(false,(.sl (.fz (.int .i64))))],fun x y=>(cr (ew x),())⟩
def zo:Ct:=awb gf
def ag2:Ann:=(.s .n (.s .n (.s (.s .n (.l [(0,(.ref 1000000 [])),(3,(.ref 7 [])),(10,(.d (.int .i64)))] [(1000000,(.sl (.fz (.int .i64)))),(7,(.sl (.fz (.int .i64))))] [9] .n)) .n)))
def aha:FuncId->Option Ct:=lkp [(129,yo),(130,pj)]
def zm(j:List Int)(K:(List Int)->bsc->Prop):Prop:=((0<=(j.length:Int))/\(((j.length:Int)<=(j.length:Int))/\(((j.length:Int)<=((140737488355328:Nat):Int))/\((((j.length:Int)*((8:Nat):Int))<=((140737488355328:Nat):Int))/\(bj (S:=bsk) (fun s=>(fun next=>((inK .i64 s.1.2.2.1)->((T.ok (.sl (.int .i64)) s.2.1)->((T.ok (.sl (.int .i64)) s.2.2.1)->(cnd (decide (s.1.2.2.1<(j.length:Int))) ((UfP s.2.1)/\((0<=s.1.2.2.1)/\((s.1.2.2.1<(s.2.1.length:Int))/\((0<=s.1.2.2.1)/\((s.1.2.2.1<(s.2.2.1.length:Int))/\((inK .i64 (s.1.2.2.1+1))/\(next (((),((),((s.1.2.2.1+1),()))),((c6 s.2.1 s.1.2.2.1).1,((List.set s.2.2.1 s.1.2.2.1.toNat (c6 s.2.1 s.1.2.2.1).2),())))))))))) ((s.2.2.1.length<=1099511627776)/\(K s.2.1 ((cr s.2.2.1),()))))))))) (((),((),(0,()))),(j,((List.replicate (Int.toNat (j.length:Int)) (0:Int)),()))))))))
theorem ah1(j:List Int)(hok:ae (gf.o.strip.oks j))(hok2:ae (okL gf.as (())))(hpre:ae (gf.pre j (()))):zm j (fun z r=>z=gf.new j (())/\r=gf.res j (())):=by
 simp only[gf,O.strip,okL,T.oks,T.ok,ap,ae,a0e,a0c,a0h]at hok hok2 hpre
 try dsimp only[T.den]at hok
 try dsimp only[T.den]at hok2
 try dsimp only[T.den]at hpre
 unfold zm;obtain⟨U,hl⟩:=hpre;clear hok;refine⟨by omega,a0r _,by omega,by omega,?_⟩;rw[a0m,age];refine bw (fun (s:bsk)=>0<=s.1.2.2.1/\s.1.2.2.1<=j.length/\s.2.1=aua j s.1.2.2.1.toNat/\UfP s.2.1/\s.2.1.length=j.length/\(∀y:Int,0<=y->y<j.length->eh s.2.1 y=eh j y)/\s.2.2.1=dx j.length fun k=>if k<s.1.2.2.1 then eh j k else 0) (fun (s:bsk)=>(j.length-s.1.2.2.1).toNat) ?_ ⟨by simp,by simp,rfl,U,rfl,fun _ _ _=>rfl,di fun k k0 _=>by dsimp only;rw[ds (by omega)]⟩;rintro⟨⟨_,_,i,_⟩,l,out,_⟩ next ⟨i0,i1,hq,V,hll,hr,ho⟩ hn _ _ _
 try dsimp only at i0 i1 hq V hll hr ho hn⊢
 refine au (fun hc=>?_) (fun hc=>?_)
 ·obtain⟨a1,a2,a3,a4⟩:=ajx V i0 (by omega);refine⟨V,i0,by omega,i0,by rw[ho,bp];exact hc,by rw[ao];(try dsimp only);omega,hn _ ⟨by dsimp only;omega,by dsimp only;omega,?_,a1,by dsimp only;rw[a2];exact hll,fun y y0 y1=>?_,?_⟩ (by dsimp only;omega)⟩
  ·try dsimp only
   rw[show (i+1).toNat=i.toNat+1 from by omega,aua,hq,show ((i.toNat:Nat):Int)=i from by omega]
  ·try dsimp only;rw[a4 y y0 (by omega),hr y y0 y1]
  ·try dsimp only
   rw[ho,y7 i0 hc];refine di fun k k0 k1=>?_;by_cases h:k=i
   ·rw[d0 h,d0 (by omega),a3,hr i i0 hc,h]
   ·rw[ds h];by_cases h2:k<i
    ·rw[d0 h2,d0 (by omega)]
    ·rw[ds h2,ds (by omega)]
 ·have e:i=j.length:=by omega
  subst e;have hrep:out=ew j:=by rw[ho];exact di fun k _ k1=>by rw[d0 k1]
  refine⟨by rw[ho,bp];exact hl,?_⟩;rw[a0m]at hq;exact⟨hq,by rw[hrep];rfl⟩
theorem yz:b8 Tryz.prog 116 zo:=bf9 (Φ:=aha) (ai aci (ai ava aq)) bi (by kernel_rfl) (fn:=Tryz.f116) (c:=bf Tryz.f116) (by kernel_rfl) (by kernel_rfl) (by kernel_rfl) gf ag2 (cp []) (by kernel_rfl) (by kernel_rfl) (by kernel_rfl) (by decide) (by kernel_rfl) (fun x y h1 h2 h3=>Eq.mp (by kernel_rfl) (ah1 x h1 h2 h3))
def jf(p:List Int):Int:=p.foldl (fun n k=>mxR n (k+1)) 0
theorem bre{p:List Int}{i:Int}(i0:0<=i)(i1:i<p.length):jf (p.take (i+1).toNat)=mxR (jf (p.take i.toNat)) (p.getD i.toNat 0+1):=by rw[jz p 0 i0 i1];unfold jf;rw[a3g];rfl
def ge:Ct:=⟨[(.sl (.int .i64))],[false],fun x=>[x.1.length<=1099511627776,bz x.1 1099511627776=true],[(false,(.fz (.int .i64)))],fun x=>(jf x.1,()),false,none⟩
def af4:Ann:=(.s .n (.s .n (.s (.s .n (.l [(3,(.d (.int .i64))),(8,(.d (.int .i64)))] [] [6,7] .n)) .n)))
def sy(p:List Int)(K:Int×Unit->Prop):Prop:=(bj (S:=bsh) (fun s=>(fun next=>((inK .i64 s.1.1)->((inK .i64 s.1.2.1)->(cnd (decide (s.1.2.1<(p.length:Int))) ((0<=s.1.2.1)/\((s.1.2.1<(p.length:Int))/\((inK .i64 ((p.getD s.1.2.1.toNat 0)+1))/\((inK .i64 (s.1.2.1+1))/\(next (((mxR s.1.1 ((p.getD s.1.2.1.toNat 0)+1)),((s.1.2.1+1),())),())))))) (K (s.1.1,()))))))) ((0,(0,())),()))
theorem ahw(p:List Int)(hok:ae (okL ge.args (p,())))(hpre:ae (ge.pre (p,()))):sy p (fun r=>r=ge.res (p,())):=by
 simp only[ge,okL,T.oks,T.ok,ap,ae,a0e,a0c,a0h]at hok hpre
 try dsimp only[T.den]at hok hpre
 unfold sy;obtain⟨hl,hw⟩:=hpre;clear hok;refine bw (fun (s:bsh)=>0<=s.1.2.1/\s.1.2.1<=p.length/\s.1.1=jf (p.take s.1.2.1.toNat)) (fun (s:bsh)=>(p.length-s.1.2.1).toNat) ?_ ⟨by simp,by simp,rfl⟩;rintro⟨⟨n,i,_⟩,_⟩ next ⟨i0,i1,hq⟩ hn _ _
 try dsimp only at i0 i1 hq hn⊢
 refine au (fun hc=>?_) (fun hc=>?_)
 ·have hk:=lj.1 hw i i0 hc;refine⟨i0,hc,by rw[ao];(try dsimp only);omega,by rw[ao];(try dsimp only);omega,hn _ ⟨by dsimp only;omega,by dsimp only;omega,?_⟩ (by dsimp only;omega)⟩
  try dsimp only
  rw[bre i0 hc,hq]
 ·simp only[ge];rw[hq,ng _ (by omega)]
theorem xr:b8 Tryz.prog 117 ge:=cg (Φ:=lkp []) aq bi (by kernel_rfl) (fn:=Tryz.f117) (c:=bf Tryz.f117) (by kernel_rfl) (by kernel_rfl) (by kernel_rfl) ge rfl af4 (cp []) (by kernel_rfl) (by kernel_rfl) (by kernel_rfl) (by decide) (fun x K=>sy x.1 K) (fun _ _=>by kernel_rfl) (fun x h1 h2=>ahw x.1 h1 h2)
def tg(p q:ab):Int:=if (p.2.length:Int)-q.2.length≠0 then (p.2.length:Int)-q.2.length else fu p.2 q.2
def ij:Ct:=⟨[ak,ak],[true,true],fun x=>[x.1.2.length<=1000000,x.2.1.2.length<=1000000],[(false,(.fz (.int .i64)))],fun x=>(tg x.1 x.2.1,()),false,none⟩
def xj(p:ab)(q:ab)(K:Int×Unit->Prop):Prop:=((inK .i64 ((p.2.length:Int)-(q.2.length:Int)))/\(cnd (((p.2.length:Int)-(q.2.length:Int)) != 0) (K (((p.2.length:Int)-(q.2.length:Int)),())) (K ((fu p.2 q.2),()))))
theorem amm(p:ab)(q:ab)(hok:ae (okL ij.args (p,q,())))(hpre:ae (ij.pre (p,q,()))):xj p q (fun r=>r=ij.res (p,q,())):=by
 simp only[ij,okL,T.oks,T.ok,ap,ae,a0e,a0c,a0h]at hok hpre
 try dsimp only[T.den]at hok hpre
 unfold xj;obtain⟨h1,h2⟩:=hpre;simp only[ij,tg];refine⟨by rw[ao];(try dsimp only);omega,bd (fun h=>?_) (fun h=>?_)⟩
 ·rw[a3f]at h;rw[d0 h]
 ·have h:=a1f.1 h;rw[ds (fun hh=>hh h)]
theorem wd:b8 Tryz.prog 118 ij:=cg (Φ:=lkp [(106,gk)]) (ai abk aq) bi (by kernel_rfl) (fn:=Tryz.f118) (c:=bf Tryz.f118) (by kernel_rfl) (by kernel_rfl) (by kernel_rfl) ij rfl .n (cp []) (by kernel_rfl) (by kernel_rfl) (by kernel_rfl) (by decide) (fun x K=>xj x.1 x.2.1 K) (fun _ _=>by kernel_rfl) (fun x h1 h2=>amm x.1 x.2.1 h1 h2)
def fx(n:Int):List Int:=dx n.toNat fun i=>i
theorem brq{n:Nat}{i:Int}(i0:0<=i)(i1:i<n):(dx n fun k=>if k<i then k else 0).set i.toNat i=dx n fun k=>if k<i+1 then k else 0:=by
 rw[y7 i0 i1];refine di fun k k0 k1=>?_;by_cases h:k=i
 ·rw[d0 h,d0 (by omega),h]
 ·rw[ds h];by_cases h2:k<i
  ·rw[d0 h2,d0 (by omega)]
  ·rw[ds h2,ds (by omega)]
def mn:Ct:=⟨[(.int .i64)],[false],fun x=>[0<=x.1,x.1<=1099511627776],[(false,(.sl (.fz (.int .i64))))],fun x=>(fx x.1,()),false,none⟩
def atk:Ann:=(.s .n (.s .n (.s (.s .n (.l [(3,(.ref 6 [])),(9,(.d (.int .i64)))] [(6,(.sl (.fz (.int .i64))))] [8] .n)) .n)))
def ada(n:Int)(K:(List Int)×Unit->Prop):Prop:=((0<=n)/\((n<=n)/\((n<=((140737488355328:Nat):Int))/\(((n*((8:Nat):Int))<=((140737488355328:Nat):Int))/\(bj (S:=(bsa×bsc)) (fun s=>(fun next=>((inK .i64 s.1.2.1)->((T.ok (.sl (.int .i64)) s.2.1)->(cnd (decide (s.1.2.1<(((List.length (List.replicate n.toNat (0:Int))):Nat):Int))) ((0<=s.1.2.1)/\((s.1.2.1<(s.2.1.length:Int))/\((inK .i64 (s.1.2.1+1))/\(next (((),((s.1.2.1+1),())),((List.set s.2.1 s.1.2.1.toNat s.1.2.1),())))))) (K (s.2.1,()))))))) (((),(0,())),((List.replicate n.toNat (0:Int)),())))))))
theorem awg(n:Int)(hok:ae (okL mn.args (n,())))(hpre:ae (mn.pre (n,()))):ada n (fun r=>r=mn.res (n,())):=by
 simp only[mn,okL,T.oks,T.ok,ap,ae,a0e,a0c,a0h]at hok hpre
 try dsimp only[T.den]at hok hpre
 unfold ada;obtain⟨n0,n1⟩:=hpre;refine⟨n0,a0r _,by omega,by omega,?_⟩;rw[age,bp];refine ac6 (n:=(n.toNat:Int)) (fun i=>dx n.toNat fun k=>if k<i then k else 0) (by omega) (di fun k k0 _=>by rw[ds (by omega)]) ?_ ?_
 ·intro i next i0 i1 hn _ _
  try dsimp only at hn⊢
  rw[←brq i0 i1]at hn;exact au (fun _=>⟨i0,by rw[bp];exact i1,by rw[ao];(try dsimp only);omega,hn⟩) (fun h=>absurd i1 h)
 ·intro next _ _
  refine au (fun h=>absurd h (a26 _)) (fun _=>?_);simp only[mn,fx];exact congrArg (fun z=>(z,())) (di fun k _ k1=>by rw[d0 k1])
theorem aig:b8 Tryz.prog 119 mn:=cg (Φ:=lkp []) aq bi (by kernel_rfl) (fn:=Tryz.f119) (c:=bf Tryz.f119) (by kernel_rfl) (by kernel_rfl) (by kernel_rfl) mn rfl atk (cp []) (by kernel_rfl) (by kernel_rfl) (by kernel_rfl) (by decide) (fun x K=>ada x.1 K) (fun _ _=>by kernel_rfl) (fun x h1 h2=>awg x.1 h1 h2)
def oy:Ct:=⟨[(.int .i64)],[false],fun x=>[0<=x.1,x.1<=1099511627776],[(false,(.sl (.fz (.int .i64))))],fun x=>(fx x.1,()),false,none⟩
def ab2(n:Int)(K:(List Int)×Unit->Prop):Prop:=((0<=n)/\((n<=1099511627776)/\(K ((fx n),()))))
theorem aue(n:Int)(hok:ae (okL oy.args (n,())))(hpre:ae (oy.pre (n,()))):ab2 n (fun r=>r=oy.res (n,())):=by
 simp only[oy,okL,T.oks,T.ok,ap,ae,a0e,a0c,a0h]at hok hpre
 try dsimp only[T.den]at hok hpre
 unfold ab2;exact⟨hpre.1,hpre.2,rfl⟩
theorem agz:b8 Tryz.prog 112 oy:=cg (Φ:=lkp [(119,mn)]) (ai aig aq) bi (by kernel_rfl) (fn:=Tryz.f112) (c:=bf Tryz.f112) (by kernel_rfl) (by kernel_rfl) (by kernel_rfl) oy rfl .n (cp []) (by kernel_rfl) (by kernel_rfl) (by kernel_rfl) (by decide) (fun x K=>ab2 x.1 K) (fun _ _=>by kernel_rfl) (fun x h1 h2=>aue x.1 h1 h2)
theorem qc(s:ac):∀(nd:Int) (a b:List Int),bq s nd (a++b)=if (bq s nd a).2=true then bq s (bq s nd a).1 b else (0,false)
 |nd,[],b=>by simp only[a2q,bq,a00]
 |nd,e::r,b=>by
  simp only[a2e,bq];split
  ·exact qc s _ r b
  ·simp
theorem bgj{s:ac}{nd:Int}{a m m' b:List Int}(h:(bq s nd (a++m++b)).2=true)(hm:(bq s (bq s nd a).1 m').2=true)(he:(bq s (bq s nd a).1 m').1=(bq s (bq s nd a).1 m).1) :
  bq s nd (a++m'++b)=bq s nd (a++m++b):=by
 rw[qc,qc]at h⊢;rw[qc s nd (a++m) b,qc s nd a m];by_cases h1:(bq s nd a).2=true
 ·rw[d0 h1]at h⊢;rw[d0 h1];by_cases h2:(bq s (bq s nd a).1 m).2=true
  ·rw[d0 h2,d0 hm,he]
  ·rw[ds h2]at h;cases h
 ·rw[ds h1]at h;rw[ds (by simp)]at h;cases h
theorem jd{s:ac}{p:ab}(h:(bg s p).2=true):inR p.1 0 (s.1-1)=true/\p.2.length<=6/\bg s p=bq s p.1 p.2:=by
 unfold bg at h⊢;split at h
 ·rename_i hc;rw[d0 hc];exact⟨hc.1,hc.2,rfl⟩
 ·cases h
theorem akh{s:ac}{p:ab}(h1:inR p.1 0 (s.1-1)=true)(h2:p.2.length<=6):bg s p=bq s p.1 p.2:=by unfold bg;rw[d0 ⟨h1,h2⟩]
structure EqnP (s:ac) (l r:ab):Prop where
 l2:(bg s l).2=true
 r2:(bg s r).2=true
 st:l.1=r.1
 en:(bg s l).1=(bg s r).1
theorem ur{s:ac}:∀{a b:List ab},vy s a b=true->∀{i:Int},0<=i->i<a.length->i<b.length->EqnP s (a.getD i.toNat (0,[])) (b.getD i.toNat (0,[]))
 |[],_,_,i,h0,h1,_=>by simp at h1;omega
 |_::_,[],_,i,h0,_,h1=>by simp at h1;omega
 |p::l,q::r,h,i,h0,h1,h2=>by
  simp only[vy,bfn,a0a,a06]at h;obtain⟨⟨⟨⟨a1,a2⟩,a3⟩,a4⟩,hr⟩:=h;by_cases e:i=0
  ·subst e;exact⟨a1,a2,a3,a4⟩
  ·have e1:i.toNat=(i-1).toNat+1:=by omega
   simp only[a0l]at h1 h2;have:=ur hr (i:=i-1) (by omega) (by omega) (by omega);rw[e1];simpa using this
theorem mo{s:ac}(h:bo s=true):0<=s.1/\s.1<=8/\s.2.1.length<=8/\s.2.2.1.length=s.2.1.length/\bz s.2.1 s.1=true/\bz s.2.2.1 s.1=true/\s.2.2.2.1.length<=8/\s.2.2.2.2.length=s.2.2.2.1.length/\vy s s.2.2.2.1 s.2.2.2.2=true:=by unfold bo at h;simp only[a0a,a06]at h;obtain⟨⟨⟨⟨⟨⟨⟨h1,h2⟩,h3⟩,h4⟩,h5⟩,h6⟩,h7⟩,h8⟩:=h;obtain⟨h1,h1'⟩:=pd.1 h1;exact⟨h1,h1',h2,h3,h4,h5,h6,h7,h8⟩
theorem be9{s:ac}{p:ab}(h:(bq s p.1 p.2).2=true){i:Int}(i0:0<=i)(i1:i<=p.2.length):(bq s p.1 (p.2.take i.toNat)).2=true/\agt s p i=(bq s p.1 (p.2.take i.toNat)).1:=by
 have h2:(bq s p.1 (p.2.take i.toNat)).2=true:=by
  have e:=a1x i.toNat p.2;rw[←e,qc]at h;by_cases hh:(bq s p.1 (p.2.take i.toNat)).2=true
  ·exact hh
  ·rw[ds hh]at h;cases h
 refine⟨h2,?_⟩;rw[aji s _ _ h2,a1c];unfold agt;by_cases e:i=0
 ·subst e;simp
 ·rw[ds e,ds (by omega)];have:(p.2.take i.toNat).getD (min i.toNat p.2.length-1) 0=p.2.getD (i-1).toNat 0:=by rw[show min i.toNat p.2.length-1=(i-1).toNat from by omega];simp only[a0n];rw[a21 (by omega)]
  rw[this]
theorem aj6{s:ac}{p l r:ab}(hp:(bg s p).2=true)(E:EqnP s l r){i:Int}(i0:0<=i)(i1:i<=p.2.length)(hh:aa0 s p l i=true)(h6:(qk p l r i).length<=6) :
  (bg s (p.1,qk p l r i)).2=true/\(bg s (p.1,qk p l r i)).1=(bg s p).1:=by
 obtain⟨a1,a2,a3⟩:=jd hp;rw[a3]at hp;unfold aa0 at hh;simp only[a0a,a06,a0t,e9]at hh;obtain⟨⟨h1,h2⟩,h3⟩:=hh;obtain⟨n1,n2⟩:=be9 hp i0 i1;obtain⟨_,_,l3⟩:=jd E.l2;obtain⟨_,_,r3⟩:=jd E.r2
 have hsplit:p.2=p.2.take i.toNat++l.2++p.2.drop (i+l.2.length).toNat:=by
  have e1:p.2.take (i+l.2.length).toNat=p.2.take i.toNat++l.2:=by have:=a1x i.toNat (p.2.take (i+l.2.length).toNat);rw[h3,List.take_take,a33 (by omega)]at this;exact this.symm
  rw[←e1,a1x]
 have hl2:=E.l2;have hr2:=E.r2;have hen:=E.en;rw[l3]at hl2 hen;rw[r3]at hr2 hen;rw[←E.st,←h1,n2]at hr2 hen;rw[←h1,n2]at hl2;have key:bq s p.1 (qk p l r i)=bq s p.1 p.2:=by have:=bgj (s:=s) (nd:=p.1) (a:=p.2.take i.toNat) (m:=l.2) (m':=r.2) (b:=p.2.drop (i+l.2.length).toNat) (by rw[←hsplit];exact hp) hr2 hen.symm;rw[←hsplit]at this;exact this
 rw[akh (p:=(p.1,qk p l r i)) a1 h6,a3];dsimp only;rw[key];exact⟨hp,rfl⟩
theorem auu{α:Type}{f:Int->α}{R:α->α->Prop}:∀{n:Nat},(∀i j:Int,0<=i->i<j->j<n->R (f i) (f j))->(dx n f).Pairwise R
 |0,_=>by simp only[dx];exact List.Pairwise.nil
 |n+1,h=>by unfold dx;rw[a5c];refine⟨auu fun i j h0 h1 h2=>h i j h0 h1 (by omega),a5d _ _,fun a ha b hb=>?_⟩;rw[a0u]at hb;obtain⟨i,i0,i1,rfl⟩:=pb.1 ha;rw[hb];exact h i n i0 i1 (by omega)
structure GroP (s:ac) (k:Nat) (l:List ab):Prop where
 nd:l.Nodup
 le:l.length<=400
 cl:∀j,j<k->(l.getD j (0,[])).2.length≠6->∀q∈iz s (l.getD j (0,[])) s.2.1.length,q∈l
 pa:∀q∈l,q.2≠[]->∃j,j<k/\l.getD j (0,[])=(q.1,q.2.dropLast)
 ok:∀q∈l,(bg s q).2=true
theorem bhj{s:ac}{p:ab}{n:Nat}:(iz s p n).Nodup:=by unfold iz List.Nodup;rw[a4x];refine List.Pairwise.filter _ (auu fun i j _ h _ e=>?_);have:=congrArg Prod.snd e;simp only[List.append_cancel_left_eq,a0i,a0c]at this;omega
theorem agj{l r:List ab}{j:Nat}(h:j<l.length):(l++r).getD j (0,[])=l.getD j (0,[]):=by simp only[a0n];rw[a1g h]
theorem agh{l:List ab}(h:l.Nodup){i j:Nat}(hi:i<l.length)(hj:j<l.length)(e:l.getD i (0,[])=l.getD j (0,[])):i=j:=by simp only[a0n,a0o hi,a0o hj,a01]at e;exact (List.getElem_inj h).1 e
theorem pe{l:List ab}{p:ab}(h:p∈l):∃i,i<l.length/\l.getD i (0,[])=p:=by obtain⟨i,hi,e⟩:=a2p h;exact⟨i,hi,by simp only[a0n,a0o hi,a01];exact e⟩
theorem jj{l:List ab}{i:Nat}(h:i<l.length):l.getD i (0,[])∈l:=by simp only[a0n,a0o h,a01];exact a3a h
theorem bq2{s:ac}{k:Nat}{l:List ab}(G:GroP s k l)(h6:(l.getD k (0,[])).2.length=6):GroP s (k+1) l:={
 nd:=G.nd
 le:=G.le
 cl:=fun j hj h q hq=>by
  by_cases e:j=k
  ·subst e;exact absurd h6 h
  ·exact G.cl j (by omega) h q hq
 pa:=fun q hq h=>by obtain⟨j,h1,h2⟩:=G.pa q hq h;exact⟨j,by omega,h2⟩
 ok:=G.ok }
theorem awu{s:ac}{p q:ab}{n:Nat}:q∈iz s p n<->∃e:Int,0<=e/\e<n/\s.2.1.getD e.toNat 0=g7 s p/\q=(p.1,p.2++[e]):=by
 unfold iz;rw[a2f];constructor
 ·rintro⟨e,he,rfl⟩;obtain⟨he,hb⟩:=a4e.1 he;obtain⟨_,h0,h1,rfl⟩:=pb.1 he;exact⟨_,h0,h1,a1v hb,rfl⟩
 ·rintro⟨e,h0,h1,h2,rfl⟩;exact⟨e,a4e.2 ⟨pb.2 ⟨e,h0,h1,rfl⟩,a0t.2 h2⟩,rfl⟩
theorem brt{s:ac}{k:Nat}{l:List ab}(G:GroP s k l)(hk:k<l.length)(h6:(l.getD k (0,[])).2.length≠6)(hl:(l++iz s (l.getD k (0,[])) s.2.1.length).length<=400):GroP s (k+1) (l++iz s (l.getD k (0,[])) s.2.1.length):={
 nd:=by unfold List.Nodup;rw[a5c];refine⟨G.nd,bhj,fun a ha b hb e=>?_⟩;subst e;obtain⟨e,_,_,_,rfl⟩:=awu.1 hb;obtain⟨j,h1,h2⟩:=G.pa _ ha (by simp);simp only[List.dropLast_concat]at h2;have:=agh G.nd (by omega) hk h2;omega
 le:=hl
 cl:=fun j hj h q hq=>by
  by_cases e:j=k
  ·subst e;rw[agj hk]at hq;exact a2k _ hq
  ·rw[agj (by omega)]at h hq;exact a1t _ (G.cl j (by omega) h q hq)
 pa:=fun q hq h=>by
  rcases a05.1 hq with hq|hq
  ·obtain⟨j,h1,h2⟩:=G.pa q hq h;exact⟨j,by omega,by rw[agj (by omega)];exact h2⟩
  ·obtain⟨e,_,_,_,rfl⟩:=awu.1 hq;refine⟨k,by omega,?_⟩;rw[agj hk,List.dropLast_concat]
 ok:=fun q hq=>by
  rcases a05.1 hq with hq|hq
  ·exact G.ok q hq
  ·exact au2 (G.ok _ (jj hk)) h6 (a0f _) hq }
theorem awn{s:ac}:∀(u k:Nat) (l:List ab),402<=u+k->k<=l.length->GroP s k l->(gi s u k l).2=true->GroP s (gi s u k l).1.length (gi s u k l).1/\∃r,(gi s u k l).1=l++r
 |0,k,l,h,hk,G,_=>by have:=G.le;omega
 |u+1,k,l,h,hk,G,hg=>by
  rw[gi]at hg⊢;by_cases hl:k<l.length
  ·rw[d0 hl]at hg⊢;by_cases h6:(l.getD k (0,[])).2.length=6
   ·rw[d0 h6]at hg⊢;exact awn u (k+1) l (by omega) (by omega) (bq2 G h6) hg
   ·rw[ds h6]at hg⊢;by_cases h4:400<(l++iz s (l.getD k (0,[])) s.2.1.length).length
    ·rw[d0 h4]at hg;cases hg
    ·rw[ds h4]at hg⊢;obtain⟨a,r,b⟩:=awn u (k+1) _ (by omega) (by rw[a0q];omega) (brt G hl h6 (by omega)) hg;exact⟨a,_,by rw[b,a08]⟩
  ·rw[ds hl];have:k=l.length:=by omega
   subst this;exact⟨G,[],by simp⟩
theorem bru{s:ac}(h0:0<=s.1)(h4:s.1<=400):GroP s 0 (d6 s.1):={
 nd:=by unfold d6 List.Nodup;refine auu fun i j _ h _ e=>?_;have:=congrArg Prod.fst e;simp only at this;omega
 le:=by unfold d6;rw[bp];omega
 cl:=fun j hj=>by omega
 pa:=fun q hq h=>by unfold d6 at hq;obtain⟨e,_,_,rfl⟩:=pb.1 hq;exact absurd rfl h
 ok:=fun q hq=>by unfold d6 at hq;obtain⟨e,e0,e1,rfl⟩:=pb.1 hq;exact aep e0 (by omega) }
structure ShrtP (s:ac) (L:List ab):Prop where
 nd:L.Nodup
 le:L.length<=400
 ok:∀q∈L,(bg s q).2=true
 all:∀q,(bg s q).2=true->q∈L
 st:∀i:Nat,i<s.1.toNat->L.getD i (0,[])=((i:Int),[])
 ne:s.1.toNat<=L.length
theorem bnk{s:ac}{x:Int}{es:List Int}{e:Int}(h:(bg s (x,es++[e])).2=true):(bg s (x,es)).2=true/\es.length≠6/\0<=e/\e<s.2.1.length/\s.2.1.getD e.toNat 0=(bg s (x,es)).1:=by
 obtain⟨a1,a2,a3⟩:=jd h;rw[a3]at h;simp only[a0q,a0l,a0p]at a2;have e1:=akh (s:=s) (p:=(x,es)) a1 (by dsimp only;omega);rw[e1];dsimp only at h a1 e1⊢;rw[qc]at h;by_cases h1:(bq s x es).2=true
 ·rw[d0 h1]at h;simp only[bq]at h;split at h
  ·rename_i hc;obtain⟨q1,q2⟩:=pd.1 hc.1;exact⟨h1,by omega,q1,by omega,hc.2⟩
  ·cases h
 ·rw[ds h1]at h;cases h
theorem ac3{s:ac}(h0:0<=s.1)(h4:s.1<=400)(h:(cu s).2=true):ShrtP s (cu s).1:=by
 unfold cu at h⊢;obtain⟨G,r,hr⟩:=awn 402 0 (d6 s.1) (by omega) (by omega) (bru h0 h4) h;generalize (gi s 402 0 (d6 s.1)).1=L at *;have hsl:(d6 s.1).length=s.1.toNat:=bp _;refine⟨G.nd,G.le,G.ok,?_,fun i hi=>?_,by rw[hr,a0q];omega⟩
 ·rintro⟨x,es⟩ hq
  have key:∀(n:Nat) (es:List Int),es.length=n->(bg s (x,es)).2=true->(x,es)∈L:=by
   intro n
   induction n with
   |zero=>intro es hn hq;have:=a1y hn;subst this;obtain⟨a1,_,_⟩:=jd hq;obtain⟨b1,b2⟩:=pd.1 a1;rw[hr];refine a1t _ ?_;unfold d6;dsimp only at b1 b2;exact pb.2 ⟨x,b1,by omega,rfl⟩
   |succ n ih=>
    intro es hn hq;have hne:es≠[]:=fun e=>by subst e;simp at hn
    have hsp:=List.dropLast_concat_getLast hne;generalize es.getLast hne=e at hsp;generalize es.dropLast=fs at hsp;subst hsp;simp only[a0q,a0l,a0p]at hn;obtain⟨c1,c2,c3,c4,c5⟩:=bnk hq;obtain⟨j,j1,j2⟩:=pe (ih fs (by omega) c1);refine G.cl j j1 (by rw[j2];exact c2) _ ?_;rw[j2];exact awu.2 ⟨e,c3,c4,by rw[c5,(iv c1).1],rfl⟩
  exact key es.length es rfl hq
 ·rw[hr,agj (by omega)];unfold d6;have:=pc (f:=fun x:Int=>(x,([]:List Int))) (n:=s.1.toNat) (i:=(i:Int)) (d:=((0:Int),([]:List Int))) (by omega) (by omega);rw[a0m]at this;exact this
theorem bm5{n:Int}(h0:0<=n)(h1:n<256):IntKind.wrap .u8 n=n:=by simp[IntKind.wrap,IntKind.bits,IntKind.signed];omega
theorem ax2:∀{a b:List Int},(∀x∈a,0<=x/\x<256)->(∀x∈b,0<=x/\x<256)->(a.map fun n=>UInt8.ofNat n.toNat)=(b.map fun n=>UInt8.ofNat n.toNat)->a=b
 |[],[],_,_,_=>rfl
 |[],_::_,_,_,h=>by simp at h
 |_::_,[],_,_,h=>by simp at h
 |x::a,y::b,ha,hb,h=>by simp only[a07,a0i]at h;have hx:=ha x (by simp);have hy:=hb y (by simp);have e:=congrArg UInt8.toNat h.1;simp only[UInt8.toNat_ofNat']at e;rw[Nat.mod_eq_of_lt (by omega),Nat.mod_eq_of_lt (by omega)]at e;rw[show x=y from by omega,ax2 (fun z hz=>ha z (by simp[hz])) (fun z hz=>hb z (by simp[hz])) h.2]
def aob(x:Int)(es:List Int):Prop:=(0<=x/\x<9)/\∀e∈es,0<=e/\e<8
theorem bmq{x:Int}{es:List Int}(h:aob x es):kbR [[x],es]=x::255::(es++[255]):=by
 unfold kbR;simp only[List.flatMap_cons,List.flatMap_nil,a07,a2l,a2h,a2e,a2q];rw[bm5 h.1.1 (by have:=h.1.2;omega)]
 have:es.map (fun n=>IntKind.wrap .u8 n)=es:=by
  have key:∀l:List Int,(∀e∈l,0<=e/\e<8)->l.map (fun n=>IntKind.wrap .u8 n)=l:=fun l=>by
   induction l with
   |nil=>intro _;rfl
   |cons a l ih=>intro hl;have ha:=hl a (by simp);rw[a07,bm5 ha.1 (by omega),ih fun e he=>hl e (by simp[he])]
  exact key es h.2
 rw[this]
theorem boz{x y:Int}{es fs:List Int}(h:aob x es)(g:aob y fs)(e:yu [[x],es]=yu [[y],fs]):x=y/\es=fs:=by
 unfold yu ag5 at e;have e1:=congrArg (fun b:ByteArray=>b.data.toList) e;simp only[List.toList_toArray]at e1;rw[bmq h,bmq g]at e1
 have rng:∀{z:Int} {l:List Int},aob z l->∀n∈(z::255::(l++[255])),0<=n/\n<256:=fun hz n hn=>by
  simp only[a0s,a05,a37,or_false]at hn;rcases hn with rfl|rfl|hn|rfl
  ·have:=hz.1;omega
  ·omega
  ·have:=hz.2 n hn;omega
  ·omega
 have e2:=ax2 (rng h) (rng g) e1;simp only[a0i,a0e]at e2;exact⟨e2.1,List.append_cancel_right e2.2⟩
theorem bnl{s:ac}{p:ab}(h1:s.1<=8)(h2:s.2.1.length<=8)(h:(bg s p).2=true):aob p.1 p.2:=by obtain⟨a1,_,_⟩:=jd h;obtain⟨b1,b2⟩:=pd.1 a1;obtain⟨_,w⟩:=iv h;refine⟨by omega,fun e he=>?_⟩;unfold bz at w;rw[a1l]at w;obtain⟨c1,c2⟩:=pd.1 (w e he);omega
def fw(L:List ab):Nat->List (ByteArray×Int)
 |0=>[]
 |n+1=>jl .str (.int .i64) (fw L n) (yu [[(L.getD n (0,[])).1],(L.getD n (0,[])).2]) n
theorem aro(L:List ab):∀n,(fw L n).length<=n
 |0=>a0f _
 |n+1=>a09 bkl (Nat.succ_le_succ (aro L n))
theorem bcb{L:List ab}(hnd:L.Nodup)(hs:∀p∈L,aob p.1 p.2):∀{n i:Nat},n<=L.length->i<n->qh .str (.int .i64) (fw L n) (yu [[(L.getD i (0,[])).1],(L.getD i (0,[])).2])=i
 |0,i,_,h=>by omega
 |n+1,i,hn,h=>by
  unfold fw;rw[ba9];by_cases e:i=n
  ·subst e;rw[d0 (e9.2 rfl)]
  ·rw[ds,bcb hnd hs (by omega) (by omega)];intro hk;obtain⟨k1,k2⟩:=boz (hs _ (jj (by omega))) (hs _ (jj (by omega))) (e9.1 hk);exact e (agh hnd (by omega) (by omega) (Prod.ext k1 k2))
theorem bpw{L:List ab}(hnd:L.Nodup)(hs:∀p∈L,aob p.1 p.2){k:al}(hk:k.1=fw L L.length){p:ab}(hp:p∈L):0<=dh k p.1 p.2/\dh k p.1 p.2<L.length/\L.getD (dh k p.1 p.2).toNat (0,[])=p:=by obtain⟨i,i1,rfl⟩:=pe hp;unfold dh;rw[hk,bcb hnd hs (a0f _) i1];exact⟨by omega,by omega,by rw[a0m]⟩
def ae9(s:ac)(p q:ab):Prop:=p.1=q.1/\(bg s p).1=(bg s q).1
theorem ae9.trans{s:ac}{p q r:ab}(h:ae9 s p q)(g:ae9 s q r):ae9 s p r:=⟨h.1.trans g.1,h.2.trans g.2⟩
theorem ae9.symm{s:ac}{p q:ab}(h:ae9 s p q):ae9 s q p:=⟨h.1.symm,h.2.symm⟩
structure LabP (s:ac) (L:List ab) (j:List Int):Prop where
 U:UfP j
 n:j.length=L.length
 st:∀x y:Int,0<=x->x<L.length->0<=y->y<L.length->eh j x=eh j y->ae9 s (L.getD x.toNat (0,[])) (L.getD y.toNat (0,[]))
theorem bl8{s:ac}{L:List ab}{j:List Int}(P:LabP s L j){x y:Int}(x0:0<=x)(x1:x<L.length)(y0:0<=y)(y1:y<L.length)(hs:ae9 s (L.getD x.toNat (0,[])) (L.getD y.toNat (0,[]))):LabP s L (xp j x y).1:=by
 have hn:=P.n;obtain⟨u1,u2,u3⟩:=amz P.U x0 (by omega) y0 (by omega);refine⟨u1,u2.trans hn,fun a b a0 a1 b0 b1 h=>?_⟩;rcases u3 with u3|u3
 ·rw[u3 a a0 (by omega),u3 b b0 (by omega)]at h;split at h <;> split at h <;> rename_i h1 h2
  ·exact (P.st a x a0 a1 x0 x1 h1).trans (P.st x b x0 x1 b0 b1 h2.symm)
  ·exact ((P.st a x a0 a1 x0 x1 h1).trans hs).trans (P.st y b y0 y1 b0 b1 h)
  ·exact ((P.st a y a0 a1 y0 y1 h).trans hs.symm).trans (P.st x b x0 x1 b0 b1 h2.symm)
  ·exact P.st a b a0 a1 b0 b1 h
 ·rw[u3 a a0 (by omega),u3 b b0 (by omega)]at h;split at h <;> split at h <;> rename_i h1 h2
  ·exact (P.st a y a0 a1 y0 y1 h1).trans (P.st y b y0 y1 b0 b1 h2.symm)
  ·exact ((P.st a y a0 a1 y0 y1 h1).trans hs.symm).trans (P.st x b x0 x1 b0 b1 h)
  ·exact ((P.st a x a0 a1 x0 x1 h).trans hs).trans (P.st y b y0 y1 b0 b1 h2.symm)
  ·exact P.st a b a0 a1 b0 b1 h
structure SetP (s:ac) (L:List ab) (k:al):Prop where
 S:bo s=true
 H:ShrtP s L
 k:k.1=fw L L.length
theorem SetP.sml{s:ac}{L:List ab}{k:al}(P:SetP s L k):∀p∈L,aob p.1 p.2:=fun p hp=>by obtain⟨_,h1,h2,_⟩:=mo P.S;exact bnl h1 h2 (P.H.ok p hp)
theorem SetP.at{s:ac}{L:List ab}{k:al}(P:SetP s L k){p:ab}(hp:(bg s p).2=true):0<=dh k p.1 p.2/\dh k p.1 p.2<L.length/\L.getD (dh k p.1 p.2).toNat (0,[])=p:=bpw P.H.nd P.sml P.k (P.H.all p hp)
theorem bka{s:ac}{L:List ab}{k:al}(P:SetP s L k){j:List Int}(Q:LabP s L j){w:Int}(w0:0<=w)(w1:w<L.length){e:Int}(e0:0<=e)(e1:e<s.2.2.2.1.length) :
  VisP s (L.getD w.toNat (0,[])) (s.2.2.2.1.getD e.toNat (0,[])) (s.2.2.2.2.getD e.toNat (0,[])) w k (L.getD w.toNat (0,[])) j:=by
 obtain⟨h1,h2,h3,h4,h5,h6,h7,h8,h9⟩:=mo P.S;have E:=ur h9 e0 e1 (by omega);have hp:=P.H.ok _ (jj (l:=L) (i:=w.toNat) (by omega));have hlp:=(jd hp).2.1;have hll:=(jd E.l2).2.1;have hlr:=(jd E.r2).2.1;refine⟨Q.U,w0,by rw[Q.n];exact w1,by omega,by omega,by omega,by rw[h4];exact (iv hp).2,fun n n0 n1 hh h6=>?_⟩;obtain⟨o1,o2⟩:=aj6 hp E n0 n1 hh h6;obtain⟨a1,a2,_⟩:=P.at o1;exact⟨a1,by rw[Q.n];exact a2⟩
theorem bee{s:ac}{L:List ab}{k:al}(P:SetP s L k){j:List Int}(Q:LabP s L j){w:Int}(w0:0<=w)(w1:w<L.length){e:Int}(e0:0<=e)(e1:e<s.2.2.2.1.length) :
  ∀n:Nat,n<=(L.getD w.toNat (0,[])).2.length+1->LabP s L (sq s (L.getD w.toNat (0,[])) (s.2.2.2.1.getD e.toNat (0,[])) (s.2.2.2.2.getD e.toNat (0,[])) w k (L.getD w.toNat (0,[])) n j)
 |0,_=>Q
 |n+1,hn=>by
  have ih:=bee P Q w0 w1 e0 e1 n (by omega);simp only[sq];split
  ·rename_i hc;obtain⟨h1,h2,h3,h4,h5,h6,h7,h8,h9⟩:=mo P.S;have E:=ur h9 e0 e1 (by omega);have hp:=P.H.ok _ (jj (l:=L) (i:=w.toNat) (by omega));obtain⟨o1,o2⟩:=aj6 hp E (i:=(n:Int)) (by omega) (by omega) hc.1 hc.2;obtain⟨a1,a2,a3⟩:=P.at o1;exact bl8 ih w0 w1 a1 a2 (by rw[a3];exact⟨rfl,o2.symm⟩)
  ·exact ih
def jE(s:ac)(k:al)(p:ab)(w:Int):Nat->List Int->List Int
 |0,j=>j
 |e+1,j=>sq s p (s.2.2.2.1.getD e (0,[])) (s.2.2.2.2.getD e (0,[])) w k p (p.2.length+1) (jE s k p w e j)
def jW(s:ac)(k:al)(L:List ab):Nat->List Int
 |0=>fx L.length
 |w+1=>jE s k (L.getD w (0,[])) w s.2.2.2.1.length (jW s k L w)
theorem bmr(s:ac)(L:List ab):LabP s L (fx L.length):=by
 have hl:(fx L.length).length=L.length:=by unfold fx;rw[bp];omega
 have hg:∀x:Int,0<=x->x<L.length->(fx L.length).getD x.toNat 0=x:=fun x x0 x1=>by unfold fx;rw[pc x0 (by omega)]
 have U:UfP (fx L.length):=⟨fun x x0 x1=>by rw[hg x x0 (by omega)];omega⟩;refine⟨U,hl,fun x y x0 x1 y0 y1 h=>?_⟩;rw[w9 U x0 (by omega) (hg x x0 x1),w9 U y0 (by omega) (hg y y0 y1)]at h;rw[h];exact⟨rfl,rfl⟩
theorem ayr{s:ac}{L:List ab}{k:al}(P:SetP s L k){j:List Int}(Q:LabP s L j){w:Nat}(w1:w<L.length):∀e:Nat,e<=s.2.2.2.1.length->LabP s L (jE s k (L.getD w (0,[])) w e j)
 |0,_=>Q
 |e+1,he=>by have:=bee P (ayr P Q w1 e (by omega)) (w:=(w:Int)) (by omega) (by omega) (e:=(e:Int)) (by omega) (by omega) _ (a0f _);simp only[a0m]at this;exact this
theorem atg{s:ac}{L:List ab}{k:al}(P:SetP s L k):∀w:Nat,w<=L.length->LabP s L (jW s k L w)
 |0,_=>bmr s L
 |w+1,hw=>ayr P (atg P w (by omega)) (by omega) _ (a0f _)
theorem bo6{p:List Int}{x:Int}(h:x∈p):x+1<=jf p:=by
 have key:∀(l:List Int) (a:Int),a<=l.foldl (fun n k=>mxR n (k+1)) a/\∀x∈l,x+1<=l.foldl (fun n k=>mxR n (k+1)) a:=fun l=>by
  induction l with
  |nil=>intro a;exact⟨a0r _,fun x hx=>by cases hx⟩
  |cons y l ih=>
   intro a;obtain⟨h1,h2⟩:=ih (mxR a (y+1));have hm:a<=mxR a (y+1)/\y+1<=mxR a (y+1):=by unfold mxR;split <;> omega
   rw[a12];refine⟨by omega,fun x hx=>?_⟩;rcases a0s.1 hx with rfl|hx
   ·omega
   ·exact h2 x hx
 exact (key p 0).2 x h
theorem bjs{p:List Int}{n:Int}(h0:0<=n)(h:∀x∈p,x<n):0<=jf p/\jf p<=n:=by
 have key:∀(l:List Int) (a:Int),0<=a->a<=n->(∀x∈l,x<n)->0<=l.foldl (fun n k=>mxR n (k+1)) a/\l.foldl (fun n k=>mxR n (k+1)) a<=n:=fun l=>by
  induction l with
  |nil=>intro a h0 h1 _;exact⟨h0,h1⟩
  |cons y l ih=>
   intro a h0 h1 hl;rw[a12];have hy:=hl y (by simp);have hm:0<=mxR a (y+1)/\mxR a (y+1)<=n:=by unfold mxR;split <;> omega
   exact ih _ hm.1 hm.2 fun x hx=>hl x (by simp[hx])
 exact key p 0 (a0r _) h0 h
theorem ako{y:Int}:∀{l s:List Int},(y∈s\/y∈l)->y∈l.foldl lx s
 |[],s,h=>by simpa using h
 |k::l,s,h=>by
  rw[a12];refine ako ?_;unfold lx;rcases h with h|h
  ·left;split
   ·exact a1t _ h
   ·exact h
  ·rcases a0s.1 h with rfl|h
   ·left;split
    ·exact a2k _ (a0u.2 rfl)
    ·rename_i hn;exact a3s fun hh=>hn (by have:=(q6 (0:Int)).2 hh;omega)
   ·exact .inr h
theorem ani{l:List Int}{i:Nat}(h:i<l.length):(cr l).getD i 0=g6 (ia l) (l.getD i 0):=by unfold cr;simp only[a0n,a1a,a0o h,a0z,a01]
theorem boe{l:List Int}:∀x∈cr l,0<=x/\x<l.length:=by intro x hx;unfold cr at hx;obtain⟨y,hy,rfl⟩:=a2f.1 hx;obtain⟨h0,h1,_⟩:=(q6 (0:Int)).1 (ako (l:=l) (s:=[]) (.inr hy));have:=apt l [];simp only[a0p,a10]at this;exact⟨h0,Int.lt_of_lt_of_le h1 (by omega)⟩
theorem bce{l:List Int}{i j:Nat}(hi:i<l.length)(hj:j<l.length):(cr l).getD i 0=(cr l).getD j 0<->l.getD i 0=l.getD j 0:=by
 rw[ani hi,ani hj];constructor
 ·intro h;have m1:l.getD i 0∈ia l:=ako (.inr (by simp only[a0n,a0o hi,a01];exact a3a hi));have m2:l.getD j 0∈ia l:=ako (.inr (by simp only[a0n,a0o hj,a01];exact a3a hj));obtain⟨_,_,e1,_⟩:=(q6 (0:Int)).1 m1;obtain⟨_,_,e2,_⟩:=(q6 (0:Int)).1 m2;rw[←e1,←e2,h]
 ·intro h;rw[h]
def kg(s:ac)(L:List ab):List Int:=cr (ew (jW s (fw L L.length,([],[])) L L.length))
structure ClaP (s:ac) (L:List ab) (c:List Int):Prop where
 n:c.length=L.length
 r:∀i:Int,0<=i->i<L.length->0<=c.getD i.toNat 0/\c.getD i.toNat 0<jf c
 st:∀i j:Int,0<=i->i<L.length->0<=j->j<L.length->c.getD i.toNat 0=c.getD j.toNat 0->ae9 s (L.getD i.toNat (0,[])) (L.getD j.toNat (0,[]))
 le:0<=jf c/\jf c<=L.length
theorem apj{j:List Int}{x:Int}(x0:0<=x)(x1:x<j.length):(ew j).getD x.toNat 0=eh j x:=by unfold ew;rw[pc x0 (by omega)]
theorem atp{s:ac}{L:List ab}{j:List Int}(Q:LabP s L j):ClaP s L (cr (ew j)):=by
 have hn:(ew j).length=L.length:=by unfold ew;rw[bp,Q.n]
 have hm:(cr (ew j)).length=L.length:=by unfold cr;rw[a0y,hn]
 have hg:=boe (l:=ew j);have mem:∀i:Int,0<=i->i<L.length->(cr (ew j)).getD i.toNat 0∈cr (ew j):=fun i i0 i1=>ii _ 0 i0 (by omega);refine⟨hm,fun i i0 i1=>⟨(hg _ (mem i i0 i1)).1,?_⟩,fun a b a0 a1 b0 b1 h=>?_,bjs (by omega) fun x hx=>by have:=(hg x hx).2;omega⟩
 ·have:=bo6 (mem i i0 i1);omega
 ·rw[bce (by omega) (by omega),apj a0 (by rw[Q.n];omega),apj b0 (by rw[Q.n];omega)]at h;exact Q.st a b a0 a1 b0 b1 h
def lsS(c:List Int)(L:List ab)(i:Nat)(l:List (Int×Option (List Int))):List (Int×Option (List Int)):=if ((l.getD (c.getD i 0).toNat (0,none)).2.isNone||decide (tg (L.getD i (0,[])) ((l.getD (c.getD i 0).toNat (0,none)).1,(l.getD (c.getD i 0).toNat (0,none)).2.getD [])<0))=true then l.set (c.getD i 0).toNat ((L.getD i (0,[])).1,some (L.getD i (0,[])).2)else l
def lsD(c:List Int)(L:List ab):Nat->List (Int×Option (List Int))
 |0=>List.replicate (jf c).toNat (0,none)
 |m+1=>lsS c L (L.length-1-m) (lsD c L m)
structure LstP (c:List Int) (L:List ab) (i:Int) (l:List (Int×Option (List Int))):Prop where
 n:l.length=(jf c).toNat
 v:∀(k:Nat) (x:Int) (es:List Int),l.getD k (0,none)=(x,some es)->∃a:Int,i<=a/\0<=a/\a<L.length/\c.getD a.toNat 0=k/\L.getD a.toNat (0,[])=(x,es)
theorem bra{c:List Int}{L:List ab}:LstP c L L.length (lsD c L 0):=by refine⟨by unfold lsD;rw[a4m],fun k x es h=>?_⟩;exfalso;unfold lsD at h;simp only[a0n,a44]at h;split at h <;> simp at h
theorem brl{s:ac}{c:List Int}{L:List ab}(C:ClaP s L c){i:Int}{l:List (Int×Option (List Int))}(P:LstP c L (i+1) l)(i0:0<=i)(i1:i<L.length):LstP c L i (lsS c L i.toNat l):=by
 have hr:=C.r i i0 i1;unfold lsS;split
 ·refine⟨by rw[a1h];exact P.n,fun k x es h=>?_⟩;have hlt:(c.getD i.toNat 0).toNat<l.length:=by rw[P.n];omega
  rw[aax _ _ _ _ _ hlt]at h;split at h
  ·rename_i e;simp only[a0j,a0d]at h;exact⟨i,a0r _,i0,i1,by omega,Prod.ext h.1 h.2⟩
  ·obtain⟨a,h1,h2⟩:=P.v k x es h;exact⟨a,by omega,h2⟩
 ·refine⟨P.n,fun k x es h=>?_⟩;obtain⟨a,h1,h2⟩:=P.v k x es h;exact⟨a,by omega,h2⟩
theorem az5{s:ac}{c:List Int}{L:List ab}(H:ShrtP s L)(C:ClaP s L c){i:Int}{l:List (Int×Option (List Int))}(P:LstP c L (i+1) l)(i0:0<=i)(i1:i<L.length):alr (l.getD (c.getD i.toNat 0).toNat (0,none)).2=true:=by
 generalize hq:l.getD (c.getD i.toNat 0).toNat (0,none)=q;obtain⟨x,o⟩:=q
 cases o with
 |none=>rfl
 |some es=>
  obtain⟨a,h1,h2,h3,h4,h5⟩:=P.v _ x es hq
  cases es with
  |cons _ _=>rfl
  |nil=>
   exfalso;have hr:=C.r i i0 i1;have hst:=(C.st a i h2 h3 i0 i1 (by omega)).1;rw[h5]at hst
   -- an empty path of number a begins at a
   have hmem:=jj (l:=L) (i:=a.toNat) (by omega);rw[h5]at hmem;obtain⟨b1,b2⟩:=pd.1 (jd (H.ok _ hmem)).1;dsimp only at b1 b2 hst;have e1:=H.st x.toNat (by omega);rw[show ((x.toNat:Nat):Int)=x from by omega]at e1;have e2:x.toNat=a.toNat:=agh H.nd (by have:=H.ne;omega) (by omega) (by rw[e1,h5]);have e3:=H.st i.toNat (by omega);rw[e3]at hst;dsimp only at hst;omega
def lsA(s:ac)(L:List ab):List (Int×Option (List Int)):=lsD (kg s L) L L.length
def atc(l:List (Int×Option (List Int))):Bool:=l.all fun q=>(q.2.getD []).length != 6
def qd(s:ac):Bool:=(cu s).2&&atc (lsA s (cu s).1)
def pcR(s:ac):al:=(fw (cu s).1 (cu s).1.length,(kg s (cu s).1,oq (lsA s (cu s).1)))
theorem ak6{s:ac}{c:List Int}{L:List ab}(C:ClaP s L c):∀m:Nat,m<=L.length->LstP c L ((L.length:Int)-m) (lsD c L m)
 |0,_=>by simpa using (bra (c:=c) (L:=L))
 |m+1,hm=>by
  have ih:=ak6 C m (by omega);have e:((L.length:Int)-((m+1:Nat):Int)).toNat=L.length-1-m:=by omega
  have:=brl C (i:=(L.length:Int)-((m+1:Nat):Int)) (l:=lsD c L m) (by rw[show (L.length:Int)-((m+1:Nat):Int)+1=(L.length:Int)-m from by omega];exact ih) (by omega) (by omega);rw[e]at this;exact this
theorem bcd{l:List (Int×Option (List Int))}:atc l=true<->∀b:Int,0<=b->b<l.length->((l.getD b.toNat (0,none)).2.getD []).length≠6:=by
 unfold atc;rw[a1l];constructor
 ·intro h b b0 b1;have:=h _ (ii l (0,none) b0 b1);simpa using this
 ·intro h x hx;obtain⟨i,hi,rfl⟩:=a2p hx;have:=h i (by omega) (by omega);rw[a0m]at this;simp only[a0n,a0o hi,a01]at this;simpa using this
def jk:Sp:=⟨[(.pt SchemaT)],[false],true,fun x=>qd x.1,fun x=>[bo x.1=true],[(false,(.fz (.pt nq))),(false,(.fz (.er 119)))],fun x=>(pcR x.1,false,()),[(false,(.fz .any)),(false,(.fz (.er 119)))],fun x=>((),true,())⟩
def dq:Ct:=rz jk true
def d8:Ct:=rz jk false
def xn:Ct:=spC jk
def ve:Ann:=(.s .n (.s .n (.s .n (.s .n (.s (.s .n (.l [(6,(.bx (.ad 27 [.de]))),(30,(.d (.int .i64)))] [(27,(.pt (.p (.mp .str (.int .i64)) (.p (.sl (.fz (.int .i64))) (.sl (.fz (.p (.int .i64) (.ns (.sl (.int .i64))))))))))] [0,4,28,29] .n)) (.s .n (.s (.s .n (.l [(6,(.bx (.ad 27 [.de]))),(9,(.ad 9 [.de])),(51,(.d (.int .i64)))] [(27,(.pt (.p (.mp .str (.int .i64)) (.p (.sl (.fz (.int .i64))) (.sl (.fz (.p (.int .i64) (.ns (.sl (.int .i64)))))))))),(9,(.pt (.sl (.fz (.int .i64)))))] [0,4,49,50] (.s .n (.s .n (.s (.s .n (.s .n (.l [(6,(.bx (.ad 27 [.de]))),(9,(.ad 9 [.de])),(10,(.ad 10 [.de])),(11,(.ad 11 [.de])),(61,(.d (.int .i64)))] [(27,(.pt (.p (.mp .str (.int .i64)) (.p (.sl (.fz (.int .i64))) (.sl (.fz (.p (.int .i64) (.ns (.sl (.int .i64)))))))))),(9,(.pt (.sl (.fz (.int .i64))))),(10,(.pt (.fz (.int .i64)))),(11,(.pt (.fz (.p (.int .i64) (.sl (.int .i64))))))] [0,4,49,50,51,60] .n))) .n))))) (.s .n (.s .n (.s (.s .n (.l [(6,(.bx (.ad 27 [.de]))),(13,(.d (.int .i64)))] [(27,(.pt (.p (.mp .str (.int .i64)) (.p (.sl (.fz (.int .i64))) (.sl (.fz (.p (.int .i64) (.ns (.sl (.int .i64))))))))))] [4] (.s .n (.s (.s .n (.s .n (.j [(6,(.bx (.ad 27 [.de])))] [(27,(.pt (.p (.mp .str (.int .i64)) (.p (.sl (.fz (.int .i64))) (.sl (.fz (.p (.int .i64) (.ns (.sl (.int .i64))))))))))] [4,13] .n))) .n)))) (.s (.s .n (.l [(6,(.bx (.ad 27 [.de]))),(159,(.d (.int .i64))),(157,(.ref 27 [.de,.r,.r]))] [(27,(.pt (.p (.mp .str (.int .i64)) (.p (.sl (.fz (.int .i64))) (.sl (.fz (.p (.int .i64) (.ns (.sl (.int .i64))))))))))] [158] .n)) .n)))))))))))
def w6:FuncId->Option Ct:=lkp [(113,aac),(110,ach),(116,zo),(117,ge),(77,mb),(118,ij),(112,oy),(111,mj),(114,qp)]
def om(s:ac)(A:jc dq.rt->Prop)(B:jc d8.rt->Prop):Prop:=(cnd (cu s).2 (((cu s).2=true)/\((0<=s.1)/\((s.1<=400)/\((s.2.1.length<=1000000)/\((s.2.2.1.length=s.2.1.length)/\(cnd false (B ((),(false,()))) (bj (S:=(bsa×(((List (ByteArray×Int))×((List Int)×(List (Int×(Option (List Int))))))×Unit))) (fun s1=>(fun next=>((inK .i64 s1.1.2.1)->((T.ok (T.mp T.str (.int .i64)) s1.2.1.1)->((T.ok (.sl (.int .i64)) s1.2.1.2.1)->((T.ok (.sl (T.p (.int .i64) (T.ns (.sl (.int .i64))))) s1.2.1.2.2)->(cnd (decide (s1.1.2.1<(List.length (cu s).1:Int))) ((0<=s1.1.2.1)/\((s1.1.2.1<(List.length (cu s).1:Int))/\(((List.length (List.getD (cu s).1 s1.1.2.1.toNat (0,[])).2)<=1000000)/\((eg s1.2.1.1.length 1 1)/\((inK .i64 (s1.1.2.1+1))/\(next (((),((s1.1.2.1+1),())),(((jl T.str (.int .i64) s1.2.1.1 (yu (((List.getD (cu s).1 s1.1.2.1.toNat (0,[])).1::[])::((List.getD (cu s).1 s1.1.2.1.toNat (0,[])).2::[]))) s1.1.2.1),s1.2.1.2),())))))))) ((0<=(List.length (cu s).1:Int))/\(((List.length (cu s).1:Int)<=1099511627776)/\(bj (S:=((Unit×bsa)×(((List (ByteArray×Int))×((List Int)×(List (Int×(Option (List Int))))))×bsc))) (fun s2=>(fun next1=>((inK .i64 s2.1.2.2.1)->((T.ok (T.mp T.str (.int .i64)) s2.2.1.1)->((T.ok (.sl (.int .i64)) s2.2.1.2.1)->((T.ok (.sl (T.p (.int .i64) (T.ns (.sl (.int .i64))))) s2.2.1.2.2)->((T.ok (.sl (.int .i64)) s2.2.2.1)->(cnd (decide (s2.1.2.2.1<(List.length (cu s).1:Int))) ((0<=s2.1.2.2.1)/\((s2.1.2.2.1<(List.length (cu s).1:Int))/\(bj (S:=((Unit×bsf)×(((List (ByteArray×Int))×((List Int)×(List (Int×(Option (List Int))))))×bsn))) (fun s3=>(fun next2=>((inK .i64 s3.1.2.2.2.2.1)->((T.ok (T.mp T.str (.int .i64)) s3.2.1.1)->((T.ok (.sl (.int .i64)) s3.2.1.2.1)->((T.ok (.sl (T.p (.int .i64) (T.ns (.sl (.int .i64))))) s3.2.1.2.2)->((T.ok (.sl (.int .i64)) s3.2.2.1)->((inK .i64 s3.2.2.2.1)->((inK .i64 s3.2.2.2.2.1.1)->((T.ok (.sl (.int .i64)) s3.2.2.2.2.1.2)->(cnd (decide (s3.1.2.2.2.2.1<(s.2.2.2.1.length:Int))) ((0<=s3.1.2.2.2.2.1)/\((s3.1.2.2.2.2.1<(s.2.2.2.1.length:Int))/\((0<=s3.1.2.2.2.2.1)/\((s3.1.2.2.2.2.1<(s.2.2.2.2.length:Int))/\((VisP s s3.2.2.2.2.1 (List.getD s.2.2.2.1 s3.1.2.2.2.2.1.toNat (0,[])) (List.getD s.2.2.2.2 s3.1.2.2.2.2.1.toNat (0,[])) s3.2.2.2.1 (s3.2.1.1,(s3.2.1.2.1,(oq s3.2.1.2.2))) s3.2.2.2.2.1 s3.2.2.1)/\((inK .i64 (s3.1.2.2.2.2.1+1))/\(next2 (((),((),((),((),((s3.1.2.2.2.2.1+1),()))))),(s3.2.1,((sq s s3.2.2.2.2.1 (List.getD s.2.2.2.1 s3.1.2.2.2.2.1.toNat (0,[])) (List.getD s.2.2.2.2 s3.1.2.2.2.2.1.toNat (0,[])) s3.2.2.2.1 (s3.2.1.1,(s3.2.1.2.1,(oq s3.2.1.2.2))) s3.2.2.2.2.1 (s3.2.2.2.2.1.2.length+1) s3.2.2.1),(s3.2.2.2.1,(s3.2.2.2.2.1,())))))))))))) ((inK .i64 (s2.1.2.2.1+1))/\(next1 (((),((),((s2.1.2.2.1+1),()))),(s3.2.1,(s3.2.2.1,())))))))))))))))) (((),((),((),((),(0,()))))),(s2.2.1,(s2.2.2.1,(s2.1.2.2.1,((List.getD (cu s).1 s2.1.2.2.1.toNat (0,[])),())))))))) ((UfP s2.2.2.1)/\((s2.2.2.1.length<=1099511627776)/\(((List.length (cr (ew s2.2.2.1)))<=1099511627776)/\(((bz (cr (ew s2.2.2.1)) 1099511627776)=true)/\((0<=(jf (cr (ew s2.2.2.1))))/\(((jf (cr (ew s2.2.2.1)))<=(jf (cr (ew s2.2.2.1))))/\(((jf (cr (ew s2.2.2.1)))<=((140737488355328:Nat):Int))/\((((jf (cr (ew s2.2.2.1)))*((32:Nat):Int))<=((140737488355328:Nat):Int))/\((inK .i64 ((List.length (cu s).1:Int)-1))/\(bj (S:=(bsa×(((List (ByteArray×Int))×((List Int)×(List (Int×(Option (List Int))))))×Unit))) (fun s3=>(fun next2=>((inK .i64 s3.1.2.1)->((T.ok (T.mp T.str (.int .i64)) s3.2.1.1)->((T.ok (.sl (.int .i64)) s3.2.1.2.1)->((T.ok (.sl (T.p (.int .i64) (T.ns (.sl (.int .i64))))) s3.2.1.2.2)->(cnd (decide (0<=s3.1.2.1)) ((0<=s3.1.2.1)/\((s3.1.2.1<(s3.2.1.2.1.length:Int))/\((0<=(List.getD s3.2.1.2.1 s3.1.2.1.toNat 0))/\(((List.getD s3.2.1.2.1 s3.1.2.1.toNat 0)<(s3.2.1.2.2.length:Int))/\(((alr (List.getD s3.2.1.2.2 (Int.toNat (List.getD s3.2.1.2.1 s3.1.2.1.toNat 0)) (0,(none:Option (List Int)))).2)=true)/\((((Option.isNone (List.getD s3.2.1.2.2 (Int.toNat (List.getD s3.2.1.2.1 s3.1.2.1.toNat 0)) (0,(none:Option (List Int)))).2)=false)->((s3.1.2.1<(List.length (cu s).1:Int))/\(0<=s3.1.2.1)))/\((((Option.isNone (List.getD s3.2.1.2.2 (Int.toNat (List.getD s3.2.1.2.1 s3.1.2.1.toNat 0)) (0,(none:Option (List Int)))).2)=false)->(((List.getD s3.2.1.2.1 s3.1.2.1.toNat 0)<(s3.2.1.2.2.length:Int))/\(0<=(List.getD s3.2.1.2.1 s3.1.2.1.toNat 0))))/\((((Option.isNone (List.getD s3.2.1.2.2 (Int.toNat (List.getD s3.2.1.2.1 s3.1.2.1.toNat 0)) (0,(none:Option (List Int)))).2)=false)->(((List.length (Option.getD (List.getD s3.2.1.2.2 (Int.toNat (List.getD s3.2.1.2.1 s3.1.2.1.toNat 0)) (0,(none:Option (List Int)))).2 []))<=1000000)/\((List.length (List.getD (cu s).1 s3.1.2.1.toNat (0,[])).2)<=1000000)))/\(ji (S:=((Unit×Unit)×(((List (ByteArray×Int))×((List Int)×(List (Int×(Option (List Int))))))×Unit))) (fun s4=>((T.ok (T.mp T.str (.int .i64)) s4.2.1.1)->((T.ok (.sl (.int .i64)) s4.2.1.2.1)->((T.ok (.sl (T.p (.int .i64) (T.ns (.sl (.int .i64))))) s4.2.1.2.2)->((inK .i64 (s3.1.2.1-1))/\(next2 (((),((s3.1.2.1-1),())),(s4.2.1,())))))))) (fun k=>(cnd ((Option.isNone (List.getD s3.2.1.2.2 (Int.toNat (List.getD s3.2.1.2.1 s3.1.2.1.toNat 0)) (0,(none:Option (List Int)))).2)||(decide ((tg (List.getD (cu s).1 s3.1.2.1.toNat (0,[])) ((List.getD s3.2.1.2.2 (Int.toNat (List.getD s3.2.1.2.1 s3.1.2.1.toNat 0)) (0,(none:Option (List Int)))).1,(Option.getD (List.getD s3.2.1.2.2 (Int.toNat (List.getD s3.2.1.2.1 s3.1.2.1.toNat 0)) (0,(none:Option (List Int)))).2 [])))<0))) ((0<=s3.1.2.1)/\((s3.1.2.1<(List.length (cu s).1:Int))/\((0<=s3.1.2.1)/\((s3.1.2.1<(List.length (cu s).1:Int))/\(((List.length (List.getD (cu s).1 s3.1.2.1.toNat (0,[])).2)<=1099511627776)/\((0<=(List.getD s3.2.1.2.1 s3.1.2.1.toNat 0))/\(((List.getD s3.2.1.2.1 s3.1.2.1.toNat 0)<(s3.2.1.2.2.length:Int))/\(k (((),()),((s3.2.1.1,(s3.2.1.2.1,(List.set s3.2.1.2.2 (Int.toNat (List.getD s3.2.1.2.1 s3.1.2.1.toNat 0)) ((List.getD (cu s).1 s3.1.2.1.toNat (0,[])).1,(Option.some (List.getD (cu s).1 s3.1.2.1.toNat (0,[])).2))))),())))))))))) (k (((),()),(s3.2.1,())))))))))))))) (bj (S:=(bsq×(((List (ByteArray×Int))×((List Int)×(List (Int×(Option (List Int))))))×Unit))) (fun s4=>(fun next3=>((inK .i64 s4.1.2.1)->((T.ok (T.mp T.str (.int .i64)) s4.2.1.1)->((T.ok (.sl (.int .i64)) s4.2.1.2.1)->((T.ok (.sl (T.p (.int .i64) (T.ns (.sl (.int .i64))))) s4.2.1.2.2)->(cnd (decide (s4.1.2.1<(s3.2.1.2.2.length:Int))) ((0<=s4.1.2.1)/\((s4.1.2.1<(s4.2.1.2.2.length:Int))/\(cnd ((((List.length (Option.getD (List.getD s4.2.1.2.2 s4.1.2.1.toNat (0,(none:Option (List Int)))).2 [])):Nat):Int)==6) (B ((),(true,()))) ((inK .i64 (s4.1.2.1+1))/\(next3 (((),((s4.1.2.1+1),((),()))),(s4.2.1,()))))))) (A ((s4.2.1.1,(s4.2.1.2.1,(oq s4.2.1.2.2))),(false,())))))))))) (((),(0,((),()))),(s3.2.1,())))))))))) (((),(((List.length (cu s).1:Int)-1),())),((s2.2.1.1,((cr (ew s2.2.2.1)),(List.replicate (Int.toNat (jf (cr (ew s2.2.2.1)))) (0,(none:Option (List Int)))))),())))))))))))))))))))) (((),((),(0,()))),(s1.2.1,((fx (List.length (cu s).1:Int)),()))))))))))))) (((),(0,())),((([]:List (ByteArray×Int)),([],([]:List (Int×(Option (List Int)))))),()))))))))) (((cu s).2=false)/\((0<=s.1)/\((s.1<=400)/\((s.2.1.length<=1000000)/\((s.2.2.1.length=s.2.1.length)/\(cnd true (B ((),(true,()))) (bj (S:=(bsa×(((List (ByteArray×Int))×((List Int)×(List (Int×(Option (List Int))))))×Unit))) (fun s1=>(fun next=>((inK .i64 s1.1.2.1)->((T.ok (T.mp T.str (.int .i64)) s1.2.1.1)->((T.ok (.sl (.int .i64)) s1.2.1.2.1)->((T.ok (.sl (T.p (.int .i64) (T.ns (.sl (.int .i64))))) s1.2.1.2.2)->(cnd (decide (s1.1.2.1<(((List.length ([]:List br9)):Nat):Int))) ((0<=s1.1.2.1)/\((s1.1.2.1<(((List.length ([]:List br9)):Nat):Int))/\(((List.length (List.getD ([]:List br9) s1.1.2.1.toNat (0,[])).2)<=1000000)/\((eg s1.2.1.1.length 1 1)/\((inK .i64 (s1.1.2.1+1))/\(next (((),((s1.1.2.1+1),())),(((jl T.str (.int .i64) s1.2.1.1 (yu (((List.getD ([]:List br9) s1.1.2.1.toNat (0,[])).1::[])::((List.getD ([]:List br9) s1.1.2.1.toNat (0,[])).2::[]))) s1.1.2.1),s1.2.1.2),())))))))) ((0<=(((List.length ([]:List br9)):Nat):Int))/\(((((List.length ([]:List br9)):Nat):Int)<=1099511627776)/\(bj (S:=((Unit×bsa)×(((List (ByteArray×Int))×((List Int)×(List (Int×(Option (List Int))))))×bsc))) (fun s2=>(fun next1=>((inK .i64 s2.1.2.2.1)->((T.ok (T.mp T.str (.int .i64)) s2.2.1.1)->((T.ok (.sl (.int .i64)) s2.2.1.2.1)->((T.ok (.sl (T.p (.int .i64) (T.ns (.sl (.int .i64))))) s2.2.1.2.2)->((T.ok (.sl (.int .i64)) s2.2.2.1)->(cnd (decide (s2.1.2.2.1<(((List.length ([]:List br9)):Nat):Int))) ((0<=s2.1.2.2.1)/\((s2.1.2.2.1<(((List.length ([]:List br9)):Nat):Int))/\(bj (S:=((Unit×bsf)×(((List (ByteArray×Int))×((List Int)×(List (Int×(Option (List Int))))))×bsn))) (fun s3=>(fun next2=>((inK .i64 s3.1.2.2.2.2.1)->((T.ok (T.mp T.str (.int .i64)) s3.2.1.1)->((T.ok (.sl (.int .i64)) s3.2.1.2.1)->((T.ok (.sl (T.p (.int .i64) (T.ns (.sl (.int .i64))))) s3.2.1.2.2)->((T.ok (.sl (.int .i64)) s3.2.2.1)->((inK .i64 s3.2.2.2.1)->((inK .i64 s3.2.2.2.2.1.1)->((T.ok (.sl (.int .i64)) s3.2.2.2.2.1.2)->(cnd (decide (s3.1.2.2.2.2.1<(s.2.2.2.1.length:Int))) ((0<=s3.1.2.2.2.2.1)/\((s3.1.2.2.2.2.1<(s.2.2.2.1.length:Int))/\((0<=s3.1.2.2.2.2.1)/\((s3.1.2.2.2.2.1<(s.2.2.2.2.length:Int))/\((VisP s s3.2.2.2.2.1 (List.getD s.2.2.2.1 s3.1.2.2.2.2.1.toNat (0,[])) (List.getD s.2.2.2.2 s3.1.2.2.2.2.1.toNat (0,[])) s3.2.2.2.1 (s3.2.1.1,(s3.2.1.2.1,(oq s3.2.1.2.2))) s3.2.2.2.2.1 s3.2.2.1)/\((inK .i64 (s3.1.2.2.2.2.1+1))/\(next2 (((),((),((),((),((s3.1.2.2.2.2.1+1),()))))),(s3.2.1,((sq s s3.2.2.2.2.1 (List.getD s.2.2.2.1 s3.1.2.2.2.2.1.toNat (0,[])) (List.getD s.2.2.2.2 s3.1.2.2.2.2.1.toNat (0,[])) s3.2.2.2.1 (s3.2.1.1,(s3.2.1.2.1,(oq s3.2.1.2.2))) s3.2.2.2.2.1 (s3.2.2.2.2.1.2.length+1) s3.2.2.1),(s3.2.2.2.1,(s3.2.2.2.2.1,())))))))))))) ((inK .i64 (s2.1.2.2.1+1))/\(next1 (((),((),((s2.1.2.2.1+1),()))),(s3.2.1,(s3.2.2.1,())))))))))))))))) (((),((),((),((),(0,()))))),(s2.2.1,(s2.2.2.1,(s2.1.2.2.1,((List.getD ([]:List br9) s2.1.2.2.1.toNat (0,[])),())))))))) ((UfP s2.2.2.1)/\((s2.2.2.1.length<=1099511627776)/\(((List.length (cr (ew s2.2.2.1)))<=1099511627776)/\(((bz (cr (ew s2.2.2.1)) 1099511627776)=true)/\((0<=(jf (cr (ew s2.2.2.1))))/\(((jf (cr (ew s2.2.2.1)))<=(jf (cr (ew s2.2.2.1))))/\(((jf (cr (ew s2.2.2.1)))<=((140737488355328:Nat):Int))/\((((jf (cr (ew s2.2.2.1)))*((32:Nat):Int))<=((140737488355328:Nat):Int))/\((inK .i64 ((((List.length ([]:List br9)):Nat):Int)-1))/\(bj (S:=(bsa×(((List (ByteArray×Int))×((List Int)×(List (Int×(Option (List Int))))))×Unit))) (fun s3=>(fun next2=>((inK .i64 s3.1.2.1)->((T.ok (T.mp T.str (.int .i64)) s3.2.1.1)->((T.ok (.sl (.int .i64)) s3.2.1.2.1)->((T.ok (.sl (T.p (.int .i64) (T.ns (.sl (.int .i64))))) s3.2.1.2.2)->(cnd (decide (0<=s3.1.2.1)) ((0<=s3.1.2.1)/\((s3.1.2.1<(s3.2.1.2.1.length:Int))/\((0<=(List.getD s3.2.1.2.1 s3.1.2.1.toNat 0))/\(((List.getD s3.2.1.2.1 s3.1.2.1.toNat 0)<(s3.2.1.2.2.length:Int))/\(((alr (List.getD s3.2.1.2.2 (Int.toNat (List.getD s3.2.1.2.1 s3.1.2.1.toNat 0)) (0,(none:Option (List Int)))).2)=true)/\((((Option.isNone (List.getD s3.2.1.2.2 (Int.toNat (List.getD s3.2.1.2.1 s3.1.2.1.toNat 0)) (0,(none:Option (List Int)))).2)=false)->((s3.1.2.1<(((List.length ([]:List br9)):Nat):Int))/\(0<=s3.1.2.1)))/\((((Option.isNone (List.getD s3.2.1.2.2 (Int.toNat (List.getD s3.2.1.2.1 s3.1.2.1.toNat 0)) (0,(none:Option (List Int)))).2)=false)->(((List.getD s3.2.1.2.1 s3.1.2.1.toNat 0)<(s3.2.1.2.2.length:Int))/\(0<=(List.getD s3.2.1.2.1 s3.1.2.1.toNat 0))))/\((((Option.isNone (List.getD s3.2.1.2.2 (Int.toNat (List.getD s3.2.1.2.1 s3.1.2.1.toNat 0)) (0,(none:Option (List Int)))).2)=false)->(((List.length (Option.getD (List.getD s3.2.1.2.2 (Int.toNat (List.getD s3.2.1.2.1 s3.1.2.1.toNat 0)) (0,(none:Option (List Int)))).2 []))<=1000000)/\((List.length (List.getD ([]:List br9) s3.1.2.1.toNat (0,[])).2)<=1000000)))/\(ji (S:=((Unit×Unit)×(((List (ByteArray×Int))×((List Int)×(List (Int×(Option (List Int))))))×Unit))) (fun s4=>((T.ok (T.mp T.str (.int .i64)) s4.2.1.1)->((T.ok (.sl (.int .i64)) s4.2.1.2.1)->((T.ok (.sl (T.p (.int .i64) (T.ns (.sl (.int .i64))))) s4.2.1.2.2)->((inK .i64 (s3.1.2.1-1))/\(next2 (((),((s3.1.2.1-1),())),(s4.2.1,())))))))) (fun k=>(cnd ((Option.isNone (List.getD s3.2.1.2.2 (Int.toNat (List.getD s3.2.1.2.1 s3.1.2.1.toNat 0)) (0,(none:Option (List Int)))).2)||(decide ((tg (List.getD ([]:List br9) s3.1.2.1.toNat (0,[])) ((List.getD s3.2.1.2.2 (Int.toNat (List.getD s3.2.1.2.1 s3.1.2.1.toNat 0)) (0,(none:Option (List Int)))).1,(Option.getD (List.getD s3.2.1.2.2 (Int.toNat (List.getD s3.2.1.2.1 s3.1.2.1.toNat 0)) (0,(none:Option (List Int)))).2 [])))<0))) ((0<=s3.1.2.1)/\((s3.1.2.1<(((List.length ([]:List br9)):Nat):Int))/\((0<=s3.1.2.1)/\((s3.1.2.1<(((List.length ([]:List br9)):Nat):Int))/\(((List.length (List.getD ([]:List br9) s3.1.2.1.toNat (0,[])).2)<=1099511627776)/\((0<=(List.getD s3.2.1.2.1 s3.1.2.1.toNat 0))/\(((List.getD s3.2.1.2.1 s3.1.2.1.toNat 0)<(s3.2.1.2.2.length:Int))/\(k (((),()),((s3.2.1.1,(s3.2.1.2.1,(List.set s3.2.1.2.2 (Int.toNat (List.getD s3.2.1.2.1 s3.1.2.1.toNat 0)) ((List.getD ([]:List br9) s3.1.2.1.toNat (0,[])).1,(Option.some (List.getD ([]:List br9) s3.1.2.1.toNat (0,[])).2))))),())))))))))) (k (((),()),(s3.2.1,())))))))))))))) (bj (S:=(bsq×(((List (ByteArray×Int))×((List Int)×(List (Int×(Option (List Int))))))×Unit))) (fun s4=>(fun next3=>((inK .i64 s4.1.2.1)->((T.ok (T.mp T.str (.int .i64)) s4.2.1.1)->((T.ok (.sl (.int .i64)) s4.2.1.2.1)->((T.ok (.sl (T.p (.int .i64) (T.ns (.sl (.int .i64))))) s4.2.1.2.2)->(cnd (decide (s4.1.2.1<(s3.2.1.2.2.length:Int))) ((0<=s4.1.2.1)/\((s4.1.2.1<(s4.2.1.2.2.length:Int))/\(cnd ((((List.length (Option.getD (List.getD s4.2.1.2.2 s4.1.2.1.toNat (0,(none:Option (List Int)))).2 [])):Nat):Int)==6) (B ((),(true,()))) ((inK .i64 (s4.1.2.1+1))/\(next3 (((),((s4.1.2.1+1),((),()))),(s4.2.1,()))))))) (A ((s4.2.1.1,(s4.2.1.2.1,(oq s4.2.1.2.2))),(false,())))))))))) (((),(0,((),()))),(s3.2.1,())))))))))) (((),(((((List.length ([]:List br9)):Nat):Int)-1),())),((s2.2.1.1,((cr (ew s2.2.2.1)),(List.replicate (Int.toNat (jf (cr (ew s2.2.2.1)))) (0,(none:Option (List Int)))))),())))))))))))))))))))) (((),((),(0,()))),(s1.2.1,((fx (((List.length ([]:List br9)):Nat):Int)),()))))))))))))) (((),(0,())),((([]:List (ByteArray×Int)),([],([]:List (Int×(Option (List Int)))))),()))))))))))
def qi(s:ac)(K:jc dq.rt->Prop):Prop:=om s K (fun _=>False)
theorem ae0(s:ac)(hok:ae (okL dq.args (s,())))(hpre:ae (dq.pre (s,()))):qi s (fun r=>r=dq.res (s,())):=by
 simp only[dq,rz,jk,okL,T.oks,T.ok,ap,ae,a0e,a0c,a0h]at hok hpre
 try dsimp only[T.den]at hok hpre
 unfold qi om;obtain⟨hs,hS⟩:=hpre;clear hok;obtain⟨s0,s8,f8,tf,_,_,e8,re,_⟩:=mo hS;unfold qd at hs;rw[a0a]at hs;obtain⟨hg,hs⟩:=hs;simp only[dq,rz,jk,pcR,lsA,kg];refine bd (fun _=>⟨hg,s0,by omega,by omega,tf,bd (fun h=>by cases h) (fun _=>?_)⟩) (fun h=>by rw[hg]at h;cases h);have H:=ac3 s0 (by omega) hg;have hlA:lsA s (cu s).1=lsD (kg s (cu s).1) (cu s).1 (cu s).1.length:=rfl;have hcA:kg s (cu s).1=cr (ew (jW s (fw (cu s).1 (cu s).1.length,([],[])) (cu s).1 (cu s).1.length)):=rfl;rw[hlA,hcA]at hs;clear hlA hcA;generalize (cu s).1=L at *;have hl4:=H.le;have hpl:∀i:Int,0<=i->i<L.length->(L.getD i.toNat (0,[])).2.length<=6:=fun i i0 i1=>(jd (H.ok _ (jj (i:=i.toNat) (by omega)))).2.1;refine bw (fun (q:(bsa×(((List (ByteArray×Int))×((List Int)×(List (Int×(Option (List Int))))))×Unit)))=>0<=q.1.2.1/\q.1.2.1<=L.length/\q.2.1=(fw L q.1.2.1.toNat,([],[]))) (fun (q:(bsa×(((List (ByteArray×Int))×((List Int)×(List (Int×(Option (List Int))))))×Unit)))=>(L.length-q.1.2.1).toNat) ?_ ⟨a0r _,by dsimp only;omega,rfl⟩;rintro⟨⟨_,i,_⟩,k,_⟩ next ⟨i0,i1,q⟩ hnx
 intros
 try dsimp only at i0 i1 q hnx⊢
 subst q
 try dsimp only
 refine au (fun hi=>?_) (fun hi=>?_)
 ·have hp:=hpl i i0 hi;refine⟨i0,hi,by omega,da (by have:=aro L i.toNat;omega),by rw[ao];(try dsimp only);omega,hnx _ ⟨by dsimp only;omega,by dsimp only;omega,?_⟩ (by dsimp only;omega)⟩
  try dsimp only
  rw[show (i+1).toNat=i.toNat+1 from by omega];simp only[fw];rw[a1z i0]
 clear hnx;have e:i=L.length:=by omega
 subst e;rw[a0m];refine⟨by omega,by omega,?_⟩;have P:SetP s L (fw L L.length,([],[])):=⟨hS,H,rfl⟩;refine bw (fun (q:((Unit×bsa)×(((List (ByteArray×Int))×((List Int)×(List (Int×(Option (List Int))))))×bsc)))=>0<=q.1.2.2.1/\q.1.2.2.1<=L.length/\q.2.1=(fw L L.length,([],[]))/\q.2.2.1=jW s (fw L L.length,([],[])) L q.1.2.2.1.toNat) (fun (q:((Unit×bsa)×(((List (ByteArray×Int))×((List Int)×(List (Int×(Option (List Int))))))×bsc)))=>(L.length-q.1.2.2.1).toNat) ?_ ⟨a0r _,by dsimp only;omega,rfl,rfl⟩;rintro⟨⟨_,_,w,_⟩,k,j,_⟩ next1 ⟨w0,w1,q1,q2⟩ hn1;intros
 try dsimp only at w0 w1 q1 q2 hn1⊢
 subst q1;subst q2;have Q:=atg P w.toNat (by omega);refine au (fun hw=>?_) (fun hw=>?_)
 ·refine⟨w0,hw,?_⟩;refine bw (fun (q:((Unit×bsf)×(((List (ByteArray×Int))×((List Int)×(List (Int×(Option (List Int))))))×bsn)))=>0<=q.1.2.2.2.2.1/\q.1.2.2.2.2.1<=s.2.2.2.1.length/\q.2.1=(fw L L.length,([],[]))/\q.2.2.1=jE s (fw L L.length,([],[])) (L.getD w.toNat (0,[])) w q.1.2.2.2.2.1.toNat (jW s (fw L L.length,([],[])) L w.toNat)/\q.2.2.2.1=w/\q.2.2.2.2.1=L.getD w.toNat (0,[])) (fun (q:((Unit×bsf)×(((List (ByteArray×Int))×((List Int)×(List (Int×(Option (List Int))))))×bsn)))=>(s.2.2.2.1.length-q.1.2.2.2.2.1).toNat) ?_ ⟨a0r _,by dsimp only;omega,rfl,rfl,rfl,rfl⟩;rintro⟨⟨_,_,_,_,e,_⟩,k,j,w',p,_⟩ next2 ⟨e0,e1,q1,q2,q3,q4⟩ hn2;intros
  try dsimp only at e0 e1 q1 q2 q3 q4 hn2⊢
  subst q1;subst q2;subst q3;subst q4;refine au (fun he=>?_) (fun he=>?_)
  ·have Qe:=ayr P Q (w:=w'.toNat) (by omega) e.toNat (by omega);rw[a1z w0]at Qe;refine⟨e0,he,e0,by omega,bka P Qe w0 hw e0 he,by rw[ao];(try dsimp only);omega,hn2 _ ⟨by dsimp only;omega,by dsimp only;omega,rfl,?_,rfl,rfl⟩ (by dsimp only;omega)⟩
   try dsimp only
   rw[show (e+1).toNat=e.toNat+1 from by omega];rfl
  ·have ee:e=s.2.2.2.1.length:=by omega
   subst ee;refine⟨by rw[ao];(try dsimp only);omega,hn1 _ ⟨by dsimp only;omega,by dsimp only;omega,rfl,?_⟩ (by dsimp only;omega)⟩
   try dsimp only
   rw[show (w'+1).toNat=w'.toNat+1 from by omega];simp only[jW];rw[a1z w0,a0m]
 clear hn1;have e:w=L.length:=by omega
 subst e;rw[a0m]at Q⊢;have C:=atp Q;have hjl:=Q.n;generalize hc:cr (ew (jW s (fw L L.length,([],[])) L L.length))=c at *;have hcn:=C.n;obtain⟨cl0,cl1⟩:=C.le;refine⟨Q.U,by omega,by omega,lj.2 fun i i0 i1=>?_,cl0,a0r _,by omega,by omega,by rw[ao];(try dsimp only);omega,?_⟩
 ·have:=C.r i i0 (by omega);exact⟨this.1,by omega⟩
 refine bw (fun (q:(bsa×(((List (ByteArray×Int))×((List Int)×(List (Int×(Option (List Int))))))×Unit)))=>-1<=q.1.2.1/\q.1.2.1<=(L.length:Int)-1/\q.2.1=(fw L L.length,(c,lsD c L ((L.length:Int)-1-q.1.2.1).toNat))) (fun (q:(bsa×(((List (ByteArray×Int))×((List Int)×(List (Int×(Option (List Int))))))×Unit)))=>(q.1.2.1+1).toNat) ?_ ⟨by dsimp only;omega,a0r _,by dsimp only;rw[show ((L.length:Int)-1-((L.length:Int)-1)).toNat=0 from by omega];rfl⟩;rintro⟨⟨_,i,_⟩,k,_⟩ next2 ⟨i0,i1,q⟩ hn2;intros
 try dsimp only at i0 i1 q hn2⊢
 subst q
 try dsimp only
 have P4:=ak6 C ((L.length:Int)-1-i).toNat (by omega);rw[show (L.length:Int)-(((L.length:Int)-1-i).toNat:Int)=i+1 from by omega]at P4;have hln:=P4.n;refine au (fun hi=>?_) (fun hi=>?_)
 ·have hi1:i<L.length:=by omega
  have hr:=C.r i hi hi1;have hT:=az5 H C P4 hi hi1;have hs4:lsD c L ((L.length:Int)-1-(i-1)).toNat=lsS c L i.toNat (lsD c L ((L.length:Int)-1-i).toNat):=by rw[show ((L.length:Int)-1-(i-1)).toNat=((L.length:Int)-1-i).toNat+1 from by omega,lsD,show L.length-1-((L.length:Int)-1-i).toNat=i.toNat from by omega]
  have hes:(((lsD c L ((L.length:Int)-1-i).toNat).getD (c.getD i.toNat 0).toNat (0,none)).2.getD []).length<=6:=by
   generalize hq:(lsD c L ((L.length:Int)-1-i).toNat).getD (c.getD i.toNat 0).toNat (0,none)=q;obtain⟨x,o⟩:=q
   cases o with
   |none=>simp
   |some es=>obtain⟨a,_,a0,a1,_,h5⟩:=P4.v _ x es hq;have:=hpl a a0 a1;rw[h5]at this;exact this
  generalize lsD c L ((L.length:Int)-1-i).toNat=l at *;refine⟨hi,by omega,hr.1,by omega,hT,fun _=>⟨by omega,hi⟩,fun _=>⟨by omega,hr.1⟩,fun _=>⟨by omega,by have:=hpl i hi hi1;omega⟩,il (fun (q:((Unit×Unit)×(((List (ByteArray×Int))×((List Int)×(List (Int×(Option (List Int))))))×Unit)))=>q.2.1=(fw L L.length,(c,lsS c L i.toNat l))) ?_ ?_⟩
  ·rintro⟨_,k,_⟩ q;intros
   try dsimp only at q⊢
   subst q;exact⟨by rw[ao];(try dsimp only);omega,hn2 _ ⟨by dsimp only;omega,by dsimp only;omega,by dsimp only;rw[hs4]⟩ (by dsimp only;omega)⟩
  ·intro kk hk;refine bd (fun hb=>?_) (fun hb=>?_)
   ·refine⟨hi,hi1,hi,hi1,by have:=hpl i hi hi1;omega,hr.1,by omega,hk _ ?_⟩
    try dsimp only
    unfold lsS;rw[d0 hb]
   ·refine hk _ ?_
    try dsimp only
    unfold lsS;rw[ds (by rw[hb];decide)]
 clear hn2;have e:i=-1:=by omega
 subst e;have e:((L.length:Int)-1-(-1)).toNat=L.length:=by omega
 rw[e]at P4 hln⊢;generalize hl:lsD c L L.length=l at *;refine bw (fun (q:(bsq×(((List (ByteArray×Int))×((List Int)×(List (Int×(Option (List Int))))))×Unit)))=>0<=q.1.2.1/\q.1.2.1<=l.length/\q.2.1=(fw L L.length,(c,l))/\∀b:Int,0<=b->b<q.1.2.1->((l.getD b.toNat (0,none)).2.getD []).length≠6) (fun (q:(bsq×(((List (ByteArray×Int))×((List Int)×(List (Int×(Option (List Int))))))×Unit)))=>(l.length-q.1.2.1).toNat) ?_ ⟨a0r _,by dsimp only;omega,rfl,fun b b0 b1=>by dsimp only at b1;omega⟩;rintro⟨⟨_,a,_⟩,k,_⟩ next3 ⟨a0,a1,q,hno⟩ hn3;intros
 try dsimp only at a0 a1 q hno hn3⊢
 subst q
 try dsimp only
 refine au (fun ha=>?_) (fun ha=>?_)
 ·refine⟨a0,ha,bd (fun h6=>?_) (fun h6=>?_)⟩
  ·have h6:=a1v h6;have h6:((l.getD a.toNat (0,none)).2.getD []).length=6:=by omega
   exact absurd h6 (bcd.1 hs a a0 ha)
  ·have h6:=a18.1 h6;refine⟨by rw[ao];(try dsimp only);omega,hn3 _ ⟨by dsimp only;omega,by dsimp only;omega,rfl,fun b b0 b1=>?_⟩ (by dsimp only;omega)⟩
   try dsimp only at b1
   by_cases e:b=a
   ·subst e;omega
   ·exact hno b b0 (by omega)
 ·have ea:a=l.length:=by omega
  subst ea;subst hl;rfl
theorem aco:b8 Tryz.prog 92 dq:=cg (Φ:=w6) (ai zn (ai acd (ai yz (ai xr (ai ri (ai wd (ai agz (ai xw (ai p7 aq))))))))) bai (by kernel_rfl) (fn:=Tryz.f92) (c:=bf Tryz.f92) (by kernel_rfl) (by kernel_rfl) (by kernel_rfl) dq rfl ve (cp [(17,17),(1,1500),(20,280002),(21,507),(8,10),(26,21),(27,517)]) (by kernel_rfl) (by kernel_rfl) (by kernel_rfl) (by decide) (fun x K=>qi x.1 K) (fun _ _=>by kernel_rfl) (fun x h1 h2=>ae0 x.1 h1 h2)
def qr(s:ac)(K:jc d8.rt->Prop):Prop:=om s (fun _=>False) K
theorem aea(s:ac)(hok:ae (okL d8.args (s,())))(hpre:ae (d8.pre (s,()))):qr s (fun r=>r=d8.res (s,())):=by
 simp only[d8,rz,jk,okL,T.oks,T.ok,ap,ae,a0e,a0c,a0h]at hok hpre
 try dsimp only[T.den]at hok hpre
 unfold qr om;obtain⟨hs,hS⟩:=hpre;clear hok;obtain⟨s0,s8,f8,tf,_,_,e8,re,_⟩:=mo hS;unfold qd at hs;refine bd (fun hg=>⟨hg,s0,by omega,by omega,tf,bd (fun h=>by cases h) (fun _=>?_)⟩) (fun hg=>⟨hg,s0,by omega,by omega,tf,bd (fun _=>rfl) (fun h=>by cases h)⟩);rw[hg,a17]at hs;have H:=ac3 s0 (by omega) hg;have hlA:lsA s (cu s).1=lsD (kg s (cu s).1) (cu s).1 (cu s).1.length:=rfl;have hcA:kg s (cu s).1=cr (ew (jW s (fw (cu s).1 (cu s).1.length,([],[])) (cu s).1 (cu s).1.length)):=rfl;rw[hlA,hcA]at hs;clear hlA hcA;generalize (cu s).1=L at *;have hl4:=H.le;have hpl:∀i:Int,0<=i->i<L.length->(L.getD i.toNat (0,[])).2.length<=6:=fun i i0 i1=>(jd (H.ok _ (jj (i:=i.toNat) (by omega)))).2.1;refine bw (fun (q:(bsa×(((List (ByteArray×Int))×((List Int)×(List (Int×(Option (List Int))))))×Unit)))=>0<=q.1.2.1/\q.1.2.1<=L.length/\q.2.1=(fw L q.1.2.1.toNat,([],[]))) (fun (q:(bsa×(((List (ByteArray×Int))×((List Int)×(List (Int×(Option (List Int))))))×Unit)))=>(L.length-q.1.2.1).toNat) ?_ ⟨a0r _,by dsimp only;omega,rfl⟩;rintro⟨⟨_,i,_⟩,k,_⟩ next ⟨i0,i1,q⟩ hnx
 intros
 try dsimp only at i0 i1 q hnx⊢
 subst q
 try dsimp only
 refine au (fun hi=>?_) (fun hi=>?_)
 ·have hp:=hpl i i0 hi;refine⟨i0,hi,by omega,da (by have:=aro L i.toNat;omega),by rw[ao];(try dsimp only);omega,hnx _ ⟨by dsimp only;omega,by dsimp only;omega,?_⟩ (by dsimp only;omega)⟩
  try dsimp only
  rw[show (i+1).toNat=i.toNat+1 from by omega];simp only[fw];rw[a1z i0]
 clear hnx;have e:i=L.length:=by omega
 subst e;rw[a0m];refine⟨by omega,by omega,?_⟩;have P:SetP s L (fw L L.length,([],[])):=⟨hS,H,rfl⟩;refine bw (fun (q:((Unit×bsa)×(((List (ByteArray×Int))×((List Int)×(List (Int×(Option (List Int))))))×bsc)))=>0<=q.1.2.2.1/\q.1.2.2.1<=L.length/\q.2.1=(fw L L.length,([],[]))/\q.2.2.1=jW s (fw L L.length,([],[])) L q.1.2.2.1.toNat) (fun (q:((Unit×bsa)×(((List (ByteArray×Int))×((List Int)×(List (Int×(Option (List Int))))))×bsc)))=>(L.length-q.1.2.2.1).toNat) ?_ ⟨a0r _,by dsimp only;omega,rfl,rfl⟩;rintro⟨⟨_,_,w,_⟩,k,j,_⟩ next1 ⟨w0,w1,q1,q2⟩ hn1;intros
 try dsimp only at w0 w1 q1 q2 hn1⊢
 subst q1;subst q2;have Q:=atg P w.toNat (by omega);refine au (fun hw=>?_) (fun hw=>?_)
 ·refine⟨w0,hw,?_⟩;refine bw (fun (q:((Unit×bsf)×(((List (ByteArray×Int))×((List Int)×(List (Int×(Option (List Int))))))×bsn)))=>0<=q.1.2.2.2.2.1/\q.1.2.2.2.2.1<=s.2.2.2.1.length/\q.2.1=(fw L L.length,([],[]))/\q.2.2.1=jE s (fw L L.length,([],[])) (L.getD w.toNat (0,[])) w q.1.2.2.2.2.1.toNat (jW s (fw L L.length,([],[])) L w.toNat)/\q.2.2.2.1=w/\q.2.2.2.2.1=L.getD w.toNat (0,[])) (fun (q:((Unit×bsf)×(((List (ByteArray×Int))×((List Int)×(List (Int×(Option (List Int))))))×bsn)))=>(s.2.2.2.1.length-q.1.2.2.2.2.1).toNat) ?_ ⟨a0r _,by dsimp only;omega,rfl,rfl,rfl,rfl⟩;rintro⟨⟨_,_,_,_,e,_⟩,k,j,w',p,_⟩ next2 ⟨e0,e1,q1,q2,q3,q4⟩ hn2;intros
  try dsimp only at e0 e1 q1 q2 q3 q4 hn2⊢
  subst q1;subst q2;subst q3;subst q4;refine au (fun he=>?_) (fun he=>?_)
  ·have Qe:=ayr P Q (w:=w'.toNat) (by omega) e.toNat (by omega);rw[a1z w0]at Qe;refine⟨e0,he,e0,by omega,bka P Qe w0 hw e0 he,by rw[ao];(try dsimp only);omega,hn2 _ ⟨by dsimp only;omega,by dsimp only;omega,rfl,?_,rfl,rfl⟩ (by dsimp only;omega)⟩
   try dsimp only
   rw[show (e+1).toNat=e.toNat+1 from by omega];rfl
  ·have ee:e=s.2.2.2.1.length:=by omega
   subst ee;refine⟨by rw[ao];(try dsimp only);omega,hn1 _ ⟨by dsimp only;omega,by dsimp only;omega,rfl,?_⟩ (by dsimp only;omega)⟩
   try dsimp only
   rw[show (w'+1).toNat=w'.toNat+1 from by omega];simp only[jW];rw[a1z w0,a0m]
 clear hn1;have e:w=L.length:=by omega
 subst e;rw[a0m]at Q⊢;have C:=atp Q;have hjl:=Q.n;generalize hc:cr (ew (jW s (fw L L.length,([],[])) L L.length))=c at *;have hcn:=C.n;obtain⟨cl0,cl1⟩:=C.le;refine⟨Q.U,by omega,by omega,lj.2 fun i i0 i1=>?_,cl0,a0r _,by omega,by omega,by rw[ao];(try dsimp only);omega,?_⟩
 ·have:=C.r i i0 (by omega);exact⟨this.1,by omega⟩
 refine bw (fun (q:(bsa×(((List (ByteArray×Int))×((List Int)×(List (Int×(Option (List Int))))))×Unit)))=>-1<=q.1.2.1/\q.1.2.1<=(L.length:Int)-1/\q.2.1=(fw L L.length,(c,lsD c L ((L.length:Int)-1-q.1.2.1).toNat))) (fun (q:(bsa×(((List (ByteArray×Int))×((List Int)×(List (Int×(Option (List Int))))))×Unit)))=>(q.1.2.1+1).toNat) ?_ ⟨by dsimp only;omega,a0r _,by dsimp only;rw[show ((L.length:Int)-1-((L.length:Int)-1)).toNat=0 from by omega];rfl⟩;rintro⟨⟨_,i,_⟩,k,_⟩ next2 ⟨i0,i1,q⟩ hn2;intros
 try dsimp only at i0 i1 q hn2⊢
 subst q
 try dsimp only
 have P4:=ak6 C ((L.length:Int)-1-i).toNat (by omega);rw[show (L.length:Int)-(((L.length:Int)-1-i).toNat:Int)=i+1 from by omega]at P4;have hln:=P4.n;refine au (fun hi=>?_) (fun hi=>?_)
 ·have hi1:i<L.length:=by omega
  have hr:=C.r i hi hi1;have hT:=az5 H C P4 hi hi1;have hs4:lsD c L ((L.length:Int)-1-(i-1)).toNat=lsS c L i.toNat (lsD c L ((L.length:Int)-1-i).toNat):=by rw[show ((L.length:Int)-1-(i-1)).toNat=((L.length:Int)-1-i).toNat+1 from by omega,lsD,show L.length-1-((L.length:Int)-1-i).toNat=i.toNat from by omega]
  have hes:(((lsD c L ((L.length:Int)-1-i).toNat).getD (c.getD i.toNat 0).toNat (0,none)).2.getD []).length<=6:=by
   generalize hq:(lsD c L ((L.length:Int)-1-i).toNat).getD (c.getD i.toNat 0).toNat (0,none)=q;obtain⟨x,o⟩:=q
   cases o with
   |none=>simp
   |some es=>obtain⟨a,_,a0,a1,_,h5⟩:=P4.v _ x es hq;have:=hpl a a0 a1;rw[h5]at this;exact this
  generalize lsD c L ((L.length:Int)-1-i).toNat=l at *;refine⟨hi,by omega,hr.1,by omega,hT,fun _=>⟨by omega,hi⟩,fun _=>⟨by omega,hr.1⟩,fun _=>⟨by omega,by have:=hpl i hi hi1;omega⟩,il (fun (q:((Unit×Unit)×(((List (ByteArray×Int))×((List Int)×(List (Int×(Option (List Int))))))×Unit)))=>q.2.1=(fw L L.length,(c,lsS c L i.toNat l))) ?_ ?_⟩
  ·rintro⟨_,k,_⟩ q;intros
   try dsimp only at q⊢
   subst q;exact⟨by rw[ao];(try dsimp only);omega,hn2 _ ⟨by dsimp only;omega,by dsimp only;omega,by dsimp only;rw[hs4]⟩ (by dsimp only;omega)⟩
  ·intro kk hk;refine bd (fun hb=>?_) (fun hb=>?_)
   ·refine⟨hi,hi1,hi,hi1,by have:=hpl i hi hi1;omega,hr.1,by omega,hk _ ?_⟩
    try dsimp only
    unfold lsS;rw[d0 hb]
   ·refine hk _ ?_
    try dsimp only
    unfold lsS;rw[ds (by rw[hb];decide)]
 clear hn2;have e:i=-1:=by omega
 subst e;have e:((L.length:Int)-1-(-1)).toNat=L.length:=by omega
 rw[e]at P4 hln⊢;generalize hl:lsD c L L.length=l at *;refine bw (fun (q:(bsq×(((List (ByteArray×Int))×((List Int)×(List (Int×(Option (List Int))))))×Unit)))=>0<=q.1.2.1/\q.1.2.1<=l.length/\q.2.1=(fw L L.length,(c,l))/\∀b:Int,0<=b->b<q.1.2.1->((l.getD b.toNat (0,none)).2.getD []).length≠6) (fun (q:(bsq×(((List (ByteArray×Int))×((List Int)×(List (Int×(Option (List Int))))))×Unit)))=>(l.length-q.1.2.1).toNat) ?_ ⟨a0r _,by dsimp only;omega,rfl,fun b b0 b1=>by dsimp only at b1;omega⟩;rintro⟨⟨_,a,_⟩,k,_⟩ next3 ⟨a0,a1,q,hno⟩ hn3;intros
 try dsimp only at a0 a1 q hno hn3⊢
 subst q
 try dsimp only
 refine au (fun ha=>?_) (fun ha=>?_)
 ·refine⟨a0,ha,bd (fun h6=>?_) (fun h6=>?_)⟩
  ·have h6:=a1v h6;have h6:((l.getD a.toNat (0,none)).2.getD []).length=6:=by omega
   rfl
  ·have h6:=a18.1 h6;refine⟨by rw[ao];(try dsimp only);omega,hn3 _ ⟨by dsimp only;omega,by dsimp only;omega,rfl,fun b b0 b1=>?_⟩ (by dsimp only;omega)⟩
   try dsimp only at b1
   by_cases e:b=a
   ·subst e;omega
   ·exact hno b b0 (by omega)
 ·have ea:a=l.length:=by omega
  subst ea;have:=bcd.2 hno;rw[this]at hs;cases hs
theorem adj:b8 Tryz.prog 92 d8:=cg (Φ:=w6) (ai zn (ai acd (ai yz (ai xr (ai ri (ai wd (ai agz (ai xw (ai p7 aq))))))))) bai (by kernel_rfl) (fn:=Tryz.f92) (c:=bf Tryz.f92) (by kernel_rfl) (by kernel_rfl) (by kernel_rfl) d8 rfl ve (cp [(17,17),(1,1500),(20,280002),(21,507),(8,10),(26,21),(27,517)]) (by kernel_rfl) (by kernel_rfl) (by kernel_rfl) (by decide) (fun x K=>qr x.1 K) (fun _ _=>by kernel_rfl) (fun x h1 h2=>aea x.1 h1 h2)
theorem wy:b8 Tryz.prog 92 xn:=aza aco adj
def x8(k:al)(s:ac)(a b:Int):Int:=if fu [(k.2.2.getD a.toNat (0,[])).1,(bg s (k.2.2.getD a.toNat (0,[]))).1] [(k.2.2.getD b.toNat (0,[])).1,(bg s (k.2.2.getD b.toNat (0,[]))).1]≠0 then fu [(k.2.2.getD a.toNat (0,[])).1,(bg s (k.2.2.getD a.toNat (0,[]))).1] [(k.2.2.getD b.toNat (0,[])).1,(bg s (k.2.2.getD b.toNat (0,[]))).1]else tg (k.2.2.getD a.toNat (0,[])) (k.2.2.getD b.toNat (0,[]))
def ez:Ct:=⟨[(.int .i64),(.int .i64),(.pt (.pt nq)),(.pt (.pt SchemaT))],[false,false,false,false],fun x=>[0<=x.1,x.1<x.2.2.1.2.2.length,0<=x.2.1,x.2.1<x.2.2.1.2.2.length,x.2.2.2.1.2.1.length<=x.2.2.2.1.2.2.1.length,inK .i64 (x.2.2.2.1.1-1),PthsR x.2.2.1.2.2],[(false,(.fz (.int .i64)))],fun x=>(x8 x.2.2.1 x.2.2.2.1 x.1 x.2.1,()),false,none⟩
def ai5:FuncId->Option Ct:=lkp [(74,gx),(106,gk),(118,ij)]
def vg(a:Int)(b:Int)(k:al)(s:ac)(K:Int×Unit->Prop):Prop:=((0<=a)/\((a<(k.2.2.length:Int))/\((0<=b)/\((b<(k.2.2.length:Int))/\((s.2.1.length<=s.2.2.1.length)/\((inK .i64 (s.1-1))/\((s.2.1.length<=s.2.2.1.length)/\((inK .i64 (s.1-1))/\(cnd ((fu ((k.2.2.getD a.toNat (0,[])).1::((bg s (k.2.2.getD a.toNat (0,[]))).1::[])) ((k.2.2.getD b.toNat (0,[])).1::((bg s (k.2.2.getD b.toNat (0,[]))).1::[]))) != 0) (K ((fu ((k.2.2.getD a.toNat (0,[])).1::((bg s (k.2.2.getD a.toNat (0,[]))).1::[])) ((k.2.2.getD b.toNat (0,[])).1::((bg s (k.2.2.getD b.toNat (0,[]))).1::[]))),())) (((List.length (k.2.2.getD a.toNat (0,[])).2)<=1000000)/\(((List.length (k.2.2.getD b.toNat (0,[])).2)<=1000000)/\(K ((tg (k.2.2.getD a.toNat (0,[])) (k.2.2.getD b.toNat (0,[]))),())))))))))))))
theorem akj(a:Int)(b:Int)(k:al)(s:ac)(hok:ae (okL ez.args (a,b,k,s,())))(hpre:ae (ez.pre (a,b,k,s,()))):vg a b k s (fun r=>r=ez.res (a,b,k,s,())):=by
 simp only[ez,okL,T.oks,T.ok,ap,ae,a0e,a0c,a0h]at hok hpre
 try dsimp only[T.den]at hok hpre
 unfold vg;obtain⟨a0,a1,b0,b1,h1,h2,hP⟩:=hpre;have ea:=hP.e _ (ii k.2.2 (0,[]) a0 a1);have eb:=hP.e _ (ii k.2.2 (0,[]) b0 b1);simp only[ez,x8];refine⟨a0,a1,b0,b1,h1,h2,h1,h2,bd (fun h=>?_) (fun h=>?_)⟩
 ·rw[a3f]at h;rw[d0 h]
 ·have h:=a1f.1 h;rw[ds (fun hh=>hh h)];exact⟨ea,eb,rfl⟩
theorem aag:b8 Tryz.prog 121 ez:=cg (Φ:=ai5) (ai og (ai abk (ai wd aq))) bi (by kernel_rfl) (fn:=Tryz.f121) (c:=bf Tryz.f121) (by kernel_rfl) (by kernel_rfl) (by kernel_rfl) ez rfl .n (cp [(1,2016)]) (by kernel_rfl) (by kernel_rfl) (by kernel_rfl) (by decide) (fun x K=>vg x.1 x.2.1 x.2.2.1 x.2.2.2.1 K) (fun _ _=>by kernel_rfl) (fun x h1 h2=>akj x.1 x.2.1 x.2.2.1 x.2.2.2.1 h1 h2)
structure OrdP (k:al) (s:ac) (x:List Int):Prop where
 h1:s.2.1.length<=s.2.2.1.length
 h2:inK .i64 (s.1-1)
 hP:PthsR k.2.2
 e:∀a∈x,0<=a/\a<k.2.2.length
def o8(k:al)(s:ac)(x:List Int):List Int:=ad6 (x8 k s) x
def zy:Wt:=⟨(.sl (.fz (.int .i64))),[(.fn 121 (.p (.pt (.pt nq)) (.p (.pt (.pt SchemaT)) .u)))],[false],fun x y=>[OrdP y.1.1 y.1.2.1 x],fun x y=>o8 y.1.1 y.1.2.1 x,[],fun x y=>(())⟩
def se:Ct:=awb zy
def axs:Go.Shelf.Ren:=⟨fun|6=>120|15=>132|14=>131|28=>141|29=>142|20=>133|21=>134|22=>135|23=>136|24=>137|25=>138|26=>139|27=>140|46=>143|47=>144|48=>145|49=>146|50=>147|57=>148|n=>n,fun|22=>22|24=>2|25=>168|3=>3|39=>189|0=>0|53=>201|55=>203|4=>4|46=>194|45=>193|50=>198|5=>5|9=>9|66=>204|70=>208|76=>210|77=>211|n=>n,fun|n=>n⟩
theorem bro:Go.Proofs.SlLaysF.n6 Tryz.prog axs:={
 mixed:=by kernel_rfl
 f6:=⟨Tryz.f120.name,by decide,Tryz.func120.trans (congrArg some (by kernel_rfl))⟩
 f14:=⟨Tryz.f131.name,by decide,Tryz.func131.trans (congrArg some (by kernel_rfl))⟩
 f15:=Tryz.func132.trans (congrArg some (by kernel_rfl))
 f20:=⟨Tryz.f133.name,by decide,Tryz.func133.trans (congrArg some (by kernel_rfl))⟩
 f21:=⟨Tryz.f134.name,by decide,Tryz.func134.trans (congrArg some (by kernel_rfl))⟩
 f22:=⟨Tryz.f135.name,by decide,Tryz.func135.trans (congrArg some (by kernel_rfl))⟩
 f23:=⟨Tryz.f136.name,by decide,Tryz.func136.trans (congrArg some (by kernel_rfl))⟩
 f24:=⟨Tryz.f137.name,by decide,Tryz.func137.trans (congrArg some (by kernel_rfl))⟩
 f25:=⟨Tryz.f138.name,by decide,Tryz.func138.trans (congrArg some (by kernel_rfl))⟩
 f26:=⟨Tryz.f139.name,by decide,Tryz.func139.trans (congrArg some (by kernel_rfl))⟩
 f27:=⟨Tryz.f140.name,by decide,Tryz.func140.trans (congrArg some (by kernel_rfl))⟩
 f28:=Tryz.func141.trans (congrArg some (by kernel_rfl))
 f29:=Tryz.func142.trans (congrArg some (by kernel_rfl))
 f46:=⟨Tryz.f143.name,by decide,Tryz.func143.trans (congrArg some (by kernel_rfl))⟩
 f47:=Tryz.func144.trans (congrArg some (by kernel_rfl))
 f48:=Tryz.func145.trans (congrArg some (by kernel_rfl))
 f49:=⟨Tryz.f146.name,by decide,Tryz.func146.trans (congrArg some (by kernel_rfl))⟩
 f50:=⟨Tryz.f147.name,by decide,Tryz.func147.trans (congrArg some (by kernel_rfl))⟩
 f57:=⟨Tryz.f148.name,by decide,Tryz.func148.trans (congrArg some (by kernel_rfl))⟩
 t0:=Tryz.underlying0
 a0:=Tryz.isAgg0
 z0:=Tryz.sizeOf0
 v0:=Tryz.zeroValue0
 t3:=Tryz.underlying3
 a3:=Tryz.isAgg3
 z3:=Tryz.sizeOf3
 v3:=Tryz.zeroValue3
 t4:=Tryz.underlying4
 a4:=Tryz.isAgg4
 z4:=Tryz.sizeOf4
 v4:=Tryz.zeroValue4
 t5:=Tryz.underlying5
 a5:=Tryz.isAgg5
 z5:=Tryz.sizeOf5
 v5:=Tryz.zeroValue5
 t9:=Tryz.underlying9
 a9:=Tryz.isAgg9
 z9:=Tryz.sizeOf9
 v9:=Tryz.zeroValue9
 t22:=Tryz.underlying22
 a22:=Tryz.isAgg22
 z22:=Tryz.sizeOf22
 v22:=Tryz.zeroValue22
 a24:=Tryz.isAgg2
 z24:=Tryz.sizeOf2
 t25:=Tryz.underlying168
 a25:=Tryz.isAgg168
 z25:=Tryz.sizeOf168
 v25:=Tryz.zeroValue168
 t39:=Tryz.underlying189
 a39:=Tryz.isAgg189
 z39:=Tryz.sizeOf189
 v39:=Tryz.zeroValue189
 t45:=Tryz.underlying193
 a45:=Tryz.isAgg193
 z45:=Tryz.sizeOf193
 v45:=Tryz.zeroValue193
 t46:=Tryz.underlying194
 a46:=Tryz.isAgg194
 z46:=Tryz.sizeOf194
 v46:=Tryz.zeroValue194
 t50:=Tryz.underlying198
 a50:=Tryz.isAgg198
 z50:=Tryz.sizeOf198
 v50:=Tryz.zeroValue198
 t53:=Tryz.underlying201
 a53:=Tryz.isAgg201
 z53:=Tryz.sizeOf201
 v53:=Tryz.zeroValue201
 t55:=Tryz.underlying203
 a55:=Tryz.isAgg203
 z55:=Tryz.sizeOf203
 v55:=Tryz.zeroValue203
 t66:=Tryz.underlying204
 a66:=Tryz.isAgg204
 z66:=Tryz.sizeOf204
 v66:=Tryz.zeroValue204
 t70:=Tryz.underlying208
 a70:=Tryz.isAgg208
 z70:=Tryz.sizeOf208
 v70:=Tryz.zeroValue208
 t76:=Tryz.underlying210
 a76:=Tryz.isAgg210
 z76:=Tryz.sizeOf210
 v76:=Tryz.zeroValue210
 t77:=Tryz.underlying211
 a77:=Tryz.isAgg211
 z77:=Tryz.sizeOf211
 v77:=Tryz.zeroValue211 }
theorem ari:∀a b:List Int,fu b a=- fu a b
 |[],[]=>rfl
 |[],_::_=>rfl
 |_::_,[]=>rfl
 |x::a,y::b=>by
  have ih:=ari a b;simp only[fu];by_cases h:x=y
  ·rw[d0 h,d0 h.symm];exact ih
  ·rw[ds h,ds (a0w h)];by_cases h2:x<y
   ·rw[d0 h2,ds (by omega)];rfl
   ·rw[ds h2,d0 (by omega)]
theorem aop:∀a b c:List Int,fu a b<0->fu b c<0->fu a c<0
 |[],[],_,h,_=>by simp[fu]at h
 |[],_::_,[],_,h=>by simp[fu]at h
 |[],_::_,_::_,_,_=>by simp[fu]
 |_::_,[],_,h,_=>by simp[fu]at h
 |_::_,_::_,[],_,h=>by simp[fu]at h
 |x::a,y::b,z::c,h,g=>by
  have ih:=aop a b c;simp only[fu]at h g⊢;by_cases h1:x=y
  ·by_cases h2:y=z
   ·rw[d0 h1]at h;rw[d0 h2]at g;rw[d0 (h1.trans h2)];exact ih h g
   ·rw[ds h2]at g;rw[h1,ds h2];exact g
  ·rw[ds h1]at h;have hxy:x<y:=by by_cases h3:x<y;exact h3;rw[ds h3]at h;omega
   by_cases h2:y=z
   ·rw[←h2,ds h1,d0 hxy];omega
   ·rw[ds h2]at g;have hyz:y<z:=by by_cases h3:y<z;exact h3;rw[ds h3]at g;omega
    rw[ds (by omega),d0 (by omega)];omega
theorem cmp2{x e y f:Int}:fu [x,e] [y,f]=if x=y then (if e=f then 0 else if e<f then -1 else 1)else if x<y then -1 else 1:=by simp only[fu]
def awo(k:al)(s:ac)(a b:Int):Prop:=(k.2.2.getD a.toNat (0,[])).1<(k.2.2.getD b.toNat (0,[])).1\/((k.2.2.getD a.toNat (0,[])).1=(k.2.2.getD b.toNat (0,[])).1/\((bg s (k.2.2.getD a.toNat (0,[]))).1<(bg s (k.2.2.getD b.toNat (0,[]))).1\/((bg s (k.2.2.getD a.toNat (0,[]))).1=(bg s (k.2.2.getD b.toNat (0,[]))).1/\((k.2.2.getD a.toNat (0,[])).2.length<(k.2.2.getD b.toNat (0,[])).2.length\/((k.2.2.getD a.toNat (0,[])).2.length=(k.2.2.getD b.toNat (0,[])).2.length/\fu (k.2.2.getD a.toNat (0,[])).2 (k.2.2.getD b.toNat (0,[])).2<0)))))
theorem bgv{k:al}{s:ac}{a b:Int}:x8 k s a b<0<->awo k s a b:=by
 unfold x8 awo tg;rw[cmp2];generalize k.2.2.getD a.toNat (0,[])=p;generalize k.2.2.getD b.toNat (0,[])=q;generalize (bg s p).1=e;generalize (bg s q).1=f;by_cases h1:p.1=q.1
 ·rw[d0 h1];by_cases h2:e=f
  ·rw[d0 h2,ds (by simp)];split <;> omega
  ·rw[ds h2];by_cases h3:e<f
   ·rw[d0 h3,d0 (by decide)];omega
   ·rw[ds h3,d0 (by decide)];omega
 ·rw[ds h1];by_cases h3:p.1<q.1
  ·rw[d0 h3,d0 (by decide)];omega
  ·rw[ds h3,d0 (by decide)];omega
theorem brm{k:al}{s:ac}(a:Int):¬x8 k s a a<0:=by rw[bgv];unfold awo;rw[ajn.2 rfl];omega
theorem o_tr{k:al}{s:ac}{a b c:Int}(h:x8 k s a b<0)(g:x8 k s b c<0):x8 k s a c<0:=by rw[bgv]at h g⊢;unfold awo at h g⊢;have:=aop (k.2.2.getD a.toNat (0,[])).2 (k.2.2.getD b.toNat (0,[])).2 (k.2.2.getD c.toNat (0,[])).2;omega
theorem brc{k:al}{s:ac}{a b:Int}(h:¬x8 k s a b<0)(g:¬x8 k s b a<0):k.2.2.getD a.toNat (0,[])=k.2.2.getD b.toNat (0,[]):=by
 rw[bgv]at h g;unfold awo at h g;have h1:=ari (k.2.2.getD a.toNat (0,[])).2 (k.2.2.getD b.toNat (0,[])).2;have h2:fu (k.2.2.getD a.toNat (0,[])).2 (k.2.2.getD b.toNat (0,[])).2=0:=by omega
 have h3:=ajn.1 h2;exact Prod.ext (by omega) h3
theorem bqs{k:al}{s:ac}{a b c:Int}(e:k.2.2.getD a.toNat (0,[])=k.2.2.getD b.toNat (0,[])):x8 k s a c=x8 k s b c:=by unfold x8;rw[e]
theorem bfq(k:al)(s:ac)(x:List Int):SwoR (x8 k s) x:={
 irrefl:=fun a _=>brm a
 trans:=fun a _ b _ c _ h g=>o_tr h g
 ntrans:=fun a _ b _ c _ h g hh=>by
  by_cases h1:x8 k s b a<0
  ·exact g (o_tr h1 hh)
  ·rw[bqs (brc h h1)]at hh;exact g hh }
theorem bfb(k:al)(s:ac)(x:List Int):(o8 k s x).Perm x:=bjz (bfq k s x)
theorem ba8(k:al)(s:ac)(x:List Int):(o8 k s x).Pairwise fun a b=>¬x8 k s b a<0:=bcl (bfq k s x)
theorem zq:b8 Tryz.prog 120 se:=by have h:=bk6 (P:=Tryz.prog) (ρ:=axs) bro (.fz (.int .i64)) rfl (sd (fn:=Tryz.f120) (c:=bf Tryz.f120) (by kernel_rfl) (by kernel_rfl) (by kernel_rfl)) (g:=121) (cs:=[.pt (.pt nq),.pt (.pt SchemaT)]) (pre:=ez.pre) (res:=ez.res) (fun c hc=>by simp only[a0s,a37,or_false]at hc;rcases hc with rfl|rfl <;> rfl) aag;refine⟨h.1,fun A w u x us y S z a b c d e=>h.2 A w u x us y S z a b c d ?_⟩;have e:OrdP y.1.1 y.1.2.1 x:=e.1;exact⟨fun p hp q hq=>⟨(e.e p hp).1,(e.e p hp).2,(e.e q hq).1,(e.e q hq).2,e.h1,e.h2,e.hP,trivial⟩,bfq _ _ x,trivial⟩
end Go.Bm
