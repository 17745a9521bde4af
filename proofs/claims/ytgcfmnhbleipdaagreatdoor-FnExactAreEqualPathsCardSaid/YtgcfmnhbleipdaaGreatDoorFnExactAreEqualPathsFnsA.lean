/- What the functions that FnExactAreEqualPaths reaches give: for each its contract, what it asks, and the proof. No condition. -/
import Derived.Test.YtgcfmnhbleipdaaGreatDoorTab
import Derived.Shelf.SlSortCmp.NoneTotal
import Derived.Shelf.SlGeneric
import Derived.Ground.SlsfProg
import Derived.LaidEql
import Derived.Stop.Asserts
import Derived.RowKitTokens
import Derived.WalkKit
set_option linter.unusedVariables false
set_option linter.unusedSimpArgs false
namespace Go.Bm
open Go.Proofs
abbrev a0i:=@implies_true
abbrev a2j:=@decide_eq_false_iff_not
abbrev a1j:=@bne_eq_false_iff_eq
abbrev a14:=@beq_eq_false_iff_ne
abbrev a37:=@bne_iff_ne
abbrev a21:=@Int.lt_irrefl
abbrev a1y:=@Int.toNat_of_nonneg
abbrev a38:=@List.mem_filter
abbrev a3c:=@List.foldl_append
abbrev a43:=@List.length_reverse
abbrev a1s:=@eq_of_beq
abbrev a4s:=@List.getD_cons_succ
abbrev bpk:Type:=((Int×((List Int)×((List Int)×((List Int)×(List (List Int))))))×((List (Int×(List Int)))×(List Int)))
abbrev bpl:Type:=(((Int×((List Int)×((List Int)×((List (Int×(List Int)))×(List (Int×(List Int)))))))×((Int×((List Int)×((List Int)×((List Int)×(List (List Int))))))×((List Int)×(List (Int×(List Int))))))×Unit)
abbrev bpm:Type:=(Int×(List Int))
abbrev bpn:Type:=(Unit×(Int×Unit))
abbrev bpo:Type:=(bpn×((List bpm)×Unit))
abbrev bpp:Type:=((List Int)×Unit)
abbrev bpq:Type:=((Int×Unit)×Unit)
abbrev bpr:Type:=((List Int)×(List bpm))
abbrev bps:Type:=(Unit×(Unit×bpn))
abbrev bpt:Type:=((Unit×Unit)×((List bpm)×Unit))
abbrev bpu:Type:=((Int×(Int×Unit))×Unit)
abbrev bpv:Type:=((Unit×bpn)×(bpk×(bpk×Unit)))
abbrev bpw:Type:=((List (List Int))×(bpm×(bpm×Unit)))
abbrev bpx:Type:=((Unit×bpn)×((List Int)×bpp))
abbrev bpy:Type:=((List Int)×bpl)
abbrev bpz:Type:=((Unit×bpn)×((List (Int×Int))×bpp))
abbrev bp0:Type:=((List Int)×(Int×(bpm×Unit)))
abbrev bp1:Type:=(bpn×((List (List Int))×Unit))
abbrev bp2:Type:=((Unit×(Unit×(Unit×(Int×(Int×Unit)))))×(bpk×(bpk×bpp)))
abbrev bp3:Type:=(Unit×(Int×(Unit×Unit)))
abbrev bp4:Type:=((Unit×(Unit×Unit))×((Int×((List Int)×((List Int)×((List bpm)×(List bpm)))))×((List bpm)×Unit)))
abbrev bp5:Type:=(bps×(bpk×(bpk×bpp)))
set_option maxRecDepth 100000
set_option maxHeartbeats 1000000
def iw:Ct:=⟨[(.pt gn),(.int .i64)],[false,false],fun x=>[0<=x.2.1,x.2.1<x.1.2.1.length,x.2.1<x.1.2.2.1.length],[(true,(.fz boy))],fun x=>(((x.1.2.1.getD x.2.1.toNat 0,x.1.2.2.1.getD x.2.1.toNat 0):Int×Int),()),false,none⟩
def ve(c:bo)(f:Int)(K:boc×Unit->Prop):Prop:=((0<=f)/\((f<(c.2.1.length:Int))/\((0<=f)/\((f<(c.2.2.1.length:Int))/\(K (((c.2.1.getD f.toNat 0),(c.2.2.1.getD f.toNat 0)),()))))))
theorem akx(c:bo)(f:Int)(hok:ae (okL iw.args (c,f,())))(hpre:ae (iw.pre (c,f,()))):ve c f (fun r=>r=iw.res (c,f,())):=by
 simp only[iw,okL,T.oks,T.ok,ap,ae,a0e,a0c,a0i]at hok hpre
 try dsimp only[T.den]at hok hpre
 unfold ve;exact⟨hpre.1,hpre.2.1,hpre.1,hpre.2.2,rfl⟩
theorem aad:bt Tryz.prog 53 iw:=cf (Φ:=lkp []) aq bj (by kernel_rfl) (fn:=Tryz.f53) (c:=bf Tryz.f53) (by kernel_rfl) (by kernel_rfl) (by kernel_rfl) iw rfl .n (cu [(1,15)]) (by kernel_rfl) (by kernel_rfl) (by kernel_rfl) (by decide) (fun x K=>ve x.1 x.2.1 K) (fun _ _=>by kernel_rfl) (fun x h1 h2=>akx x.1 x.2.1 h1 h2)
def gj(c:bo)(f g:Int):Int:=(c.2.2.2.2.getD f.toNat []).getD g.toNat 0
def iz:Ct:=⟨[(.pt gn),(.int .i64),(.int .i64)],[false,false,false],fun x=>[0<=x.2.1,x.2.1<x.1.2.2.2.2.length,0<=x.2.2.1,x.2.2.1<(x.1.2.2.2.2.getD x.2.1.toNat []).length],[(false,(.fz (.int .i64)))],fun x=>(gj x.1 x.2.1 x.2.2.1,()),false,none⟩
def vy(c:bo)(f:Int)(g:Int)(K:Int×Unit->Prop):Prop:=((0<=f)/\((f<(c.2.2.2.2.length:Int))/\((0<=g)/\((g<(List.length (c.2.2.2.2.getD f.toNat []):Int))/\(K ((List.getD (c.2.2.2.2.getD f.toNat []) g.toNat 0),()))))))
theorem akt(c:bo)(f:Int)(g:Int)(hok:ae (okL iz.args (c,f,g,())))(hpre:ae (iz.pre (c,f,g,()))):vy c f g (fun r=>r=iz.res (c,f,g,())):=by
 simp only[iz,okL,T.oks,T.ok,ap,ae,a0e,a0c,a0i]at hok hpre
 try dsimp only[T.den]at hok hpre
 unfold vy;exact⟨hpre.1,hpre.2.1,hpre.2.2.1,hpre.2.2.2,rfl⟩
theorem z7:bt Tryz.prog 79 iz:=cf (Φ:=lkp []) aq bj (by kernel_rfl) (fn:=Tryz.f79) (c:=bf Tryz.f79) (by kernel_rfl) (by kernel_rfl) (by kernel_rfl) iz rfl .n (cu []) (by kernel_rfl) (by kernel_rfl) (by kernel_rfl) (by decide) (fun x K=>vy x.1 x.2.1 x.2.2.1 K) (fun _ _=>by kernel_rfl) (fun x h1 h2=>akt x.1 x.2.1 x.2.2.1 h1 h2)
def fu:Ct:=⟨[(.pt gn)],[false],fun x=>[],[(false,(.fz (.int .i64)))],fun x=>((x.1.2.1.length:Int),()),false,none⟩
def t7(c:bo)(K:Int×Unit->Prop):Prop:=(K ((c.2.1.length:Int),()))
theorem ah6(c:bo)(hok:ae (okL fu.args (c,())))(hpre:ae (fu.pre (c,()))):t7 c (fun r=>r=fu.res (c,())):=by
 simp only[fu,okL,T.oks,T.ok,ap,ae,a0e,a0c,a0i]at hok hpre
 try dsimp only[T.den]at hok hpre
 unfold t7;rfl
theorem sm:bt Tryz.prog 104 fu:=cf (Φ:=lkp []) aq bj (by kernel_rfl) (fn:=Tryz.f104) (c:=bf Tryz.f104) (by kernel_rfl) (by kernel_rfl) (by kernel_rfl) fu rfl .n (cu []) (by kernel_rfl) (by kernel_rfl) (by kernel_rfl) (by decide) (fun x K=>t7 x.1 K) (fun _ _=>by kernel_rfl) (fun x h1 h2=>ah6 x.1 h1 h2)
def ir:Ct:=⟨[(.int .i64),(.int .i64),(.int .i64)],[false,false,false],fun x=>[],[(false,(.fz .bool))],fun x=>(inR x.1 x.2.1 x.2.2.1,()),false,none⟩
def acb(n:Int)(low:Int)(high:Int)(K:Bool×Unit->Prop):Prop:=(K (((decide (low<=n))&&(decide (n<=high))),()))
theorem at8(n:Int)(low:Int)(high:Int)(hok:ae (okL ir.args (n,low,high,())))(hpre:ae (ir.pre (n,low,high,()))):acb n low high (fun r=>r=ir.res (n,low,high,())):=by
 simp only[ir,okL,T.oks,T.ok,ap,ae,a0e,a0c,a0i]at hok hpre
 try dsimp only[T.den]at hok hpre
 unfold acb
 grind[cnd,cg,al,ir,inR]
theorem tc:bt Tryz.prog 72 ir:=cf (Φ:=lkp []) aq bj (by kernel_rfl) (fn:=Tryz.f72) (c:=bf Tryz.f72) (by kernel_rfl) (by kernel_rfl) (by kernel_rfl) ir rfl .n (cu []) (by kernel_rfl) (by kernel_rfl) (by kernel_rfl) (by decide) (fun x K=>acb x.1 x.2.1 x.2.2.1 K) (fun _ _=>by kernel_rfl) (fun x h1 h2=>at8 x.1 x.2.1 x.2.2.1 h1 h2)
def l7:Ct:=⟨[(.sl (.int .i64)),(.int .i64)],[false,false],fun x=>[inK .i64 (x.2.1-1)],[(false,(.fz .bool))],fun x=>(bm x.1 x.2.1,()),false,none⟩
def ata:Ann:=(.s .n (.s (.s .n (.l [(9,(.d (.int .i64)))] [] [1,7,8] .n)) .n))
def aej(list:List Int)(n:Int)(K:Bool×Unit->Prop):Prop:=(bi (S:=bpq) (fun s=>(fun next=>((inK .i64 s.1.1)->(cnd (decide (s.1.1<(list.length:Int))) ((0<=s.1.1)/\((s.1.1<(list.length:Int))/\((inK .i64 (n-1))/\(cnd (!(inR (list.getD s.1.1.toNat 0) 0 (n-1))) (K (false,())) ((inK .i64 (s.1.1+1))/\(next (((s.1.1+1),()),()))))))) (K (true,())))))) ((0,()),()))
theorem awa(list:List Int)(n:Int)(hok:ae (okL l7.args (list,n,())))(hpre:ae (l7.pre (list,n,()))):aej list n (fun r=>r=l7.res (list,n,())):=by
 simp only[l7,okL,T.oks,T.ok,ap,ae,a0e,a0c,a0i]at hok hpre
 try dsimp only[T.den]at hok hpre
 unfold aej;refine bq (fun (s:bpq)=>0<=s.1.1/\s.1.1<=list.length/\bm list n=bm (list.drop s.1.1.toNat) n) (fun (s:bpq)=>(list.length-s.1.1).toNat) ?_ (by simp);rintro⟨⟨i,_⟩,_⟩ next ⟨h0,h1,h2⟩ hn hin
 simp only at h0 h1 h2 hn⊢;refine ao (fun hc=>?_) (fun hc=>?_)
 ·rw[nx list 0 h0 hc]at h2;simp only[bm,a3m]at h2
  grind[cnd,cg,al,l7,bm]
 ·rw[qu list (by omega)]at h2
  grind[cnd,cg,al,l7,bm]
theorem ais:bt Tryz.prog 73 l7:=cf (Φ:=lkp [(72,ir)]) (ai tc aq) bj (by kernel_rfl) (fn:=Tryz.f73) (c:=bf Tryz.f73) (by kernel_rfl) (by kernel_rfl) (by kernel_rfl) l7 rfl ata (cu []) (by kernel_rfl) (by kernel_rfl) (by kernel_rfl) (by decide) (fun x K=>aej x.1 x.2.1 K) (fun _ _=>by kernel_rfl) (fun x h1 h2=>awa x.1 x.2.1 h1 h2)
def ya(c:bo)(f g v:Int):Bool:=
 if c.2.2.1.getD f.toNat 0=c.2.1.getD g.toNat 0 then decide (0<=v/\v<c.2.1.length/\c.2.1.getD v.toNat 0=c.2.1.getD f.toNat 0/\c.2.2.1.getD v.toNat 0=c.2.2.1.getD g.toNat 0)
 else decide (v=-1)
def uc(c:bo)(f g:Int):Bool:=ya c f g (gj c f g)
structure ShapeP (c:bo):Prop where
 ob:0<=c.1/\c.1<=8
 m:c.2.1.length<=40
 lt:c.2.2.1.length=c.2.1.length
 fr:bm c.2.1 c.1=true
 to:bm c.2.2.1 c.1=true
 li:(c.2.2.2.1.length:Int)=c.1
 ids:bm c.2.2.2.1 c.2.1.length=true
 lc:c.2.2.2.2.length=c.2.1.length
 idt:∀x:Int,0<=x->x<c.1->c.2.1.getD (c.2.2.2.1.getD x.toNat 0).toNat 0=x/\c.2.2.1.getD (c.2.2.2.1.getD x.toNat 0).toNat 0=x
 row:∀f:Int,0<=f->f<c.2.1.length->(c.2.2.2.2.getD f.toNat []).length=c.2.1.length
 cell:∀f g:Int,0<=f->f<c.2.1.length->0<=g->g<c.2.1.length->uc c f g=true
def zb(c:bo):Bool:=inR c.1 0 8&&decide (c.2.1.length<=40)&&decide (c.2.2.1.length=c.2.1.length)&&bm c.2.1 c.1&&bm c.2.2.1 c.1&&decide ((c.2.2.2.1.length:Int)=c.1)&&bm c.2.2.2.1 c.2.1.length &&
 decide (c.2.2.2.2.length=c.2.1.length)&&rn c.1.toNat (fun x=>decide (c.2.1.getD (c.2.2.2.1.getD x.toNat 0).toNat 0=x/\c.2.2.1.getD (c.2.2.2.1.getD x.toNat 0).toNat 0=x)) &&
 rn c.2.1.length (fun f=>decide ((c.2.2.2.2.getD f.toNat []).length=c.2.1.length))&&rn c.2.1.length (fun f=>rn c.2.1.length fun g=>uc c f g)
theorem ad2{c:bo}:zb c=true<->ShapeP c:=by
 simp only[zb,a0a,a04,inR,agk];constructor
 ·rintro⟨⟨⟨⟨⟨⟨⟨⟨⟨⟨h0,h1⟩,h2⟩,h3⟩,h4⟩,h5⟩,h6⟩,h7⟩,h8⟩,h9⟩,h10⟩;exact⟨h0,h1,h2,h3,h4,h5,h6,h7,fun x a b=>h8 x a (by omega),h9,fun f g a b d e=>h10 f a b g d e⟩
 ·intro h;exact⟨⟨⟨⟨⟨⟨⟨⟨⟨⟨h.ob,h.m⟩,h.lt⟩,h.fr⟩,h.to⟩,h.li⟩,h.ids⟩,h.lc⟩,fun x a b=>h.idt x a (by have:=h.ob;omega)⟩,h.row⟩,fun f a b g d e=>h.cell f g a b d e⟩
theorem am8{c:bo}(h:¬ShapeP c):zb c=false:=by
 cases hs:zb c with
 |false=>rfl
 |true=>exact absurd (ad2.1 hs) h
theorem bcl{c:bo}(h:ShapeP c):zb c=true:=ad2.2 h
def da:Ct:=⟨[(.pt gn)],[false],fun x=>[],[(false,(.fz .bool))],fun x=>(zb x.1,()),false,none⟩
def af5:Ann:=(.s .n (.s .n (.s .n (.s .n (.s (.s .n (.l [(88,(.d (.int .i64)))] [] [0,3,86,87] .n)) (.s (.s .n (.l [(106,(.d (.int .i64)))] [] [0,3,104,105] (.s .n (.s .n (.s (.s .n (.s .n (.s .n (.l [(117,(.d (.int .i64)))] [] [0,3,6,104,105,106,115,116] (.s .n (.s .n (.s (.j [] [] [0,3,6,104,105,106,115,116,117] .n) .n))))))) .n))))) .n))))))
def agz:FuncId->Option Ct:=lkp [(104,fu),(53,iw),(72,ir),(73,l7)]
def sf(c:bo)(K:Bool×Unit->Prop):Prop:=((((((!(inR c.1 0 8))||(decide (40<(c.2.1.length:Int))))||((c.2.2.1.length:Int) != (c.2.1.length:Int)))=false)->(inK .i64 (c.1-1)))/\(((((((!(inR c.1 0 8))||(decide (40<(c.2.1.length:Int))))||((c.2.2.1.length:Int) != (c.2.1.length:Int)))||(!(bm c.2.1 c.1)))=false)->(inK .i64 (c.1-1)))/\(cnd (((((!(inR c.1 0 8))||(decide (40<(c.2.1.length:Int))))||((c.2.2.1.length:Int) != (c.2.1.length:Int)))||(!(bm c.2.1 c.1)))||(!(bm c.2.2.1 c.1))) (K (false,())) (((((c.2.2.2.1.length:Int) != c.1)=false)->(inK .i64 ((c.2.1.length:Int)-1)))/\(cnd ((((c.2.2.2.1.length:Int) != c.1)||(!(bm c.2.2.2.1 (c.2.1.length:Int))))||((c.2.2.2.2.length:Int) != (c.2.1.length:Int))) (K (false,())) (bi (S:=bpq) (fun s=>(fun next=>((inK .i64 s.1.1)->(cnd (decide (s.1.1<(c.2.2.2.1.length:Int))) ((0<=s.1.1)/\((s.1.1<(c.2.2.2.1.length:Int))/\((0<=(c.2.2.2.1.getD s.1.1.toNat 0))/\(((c.2.2.2.1.getD s.1.1.toNat 0)<(c.2.1.length:Int))/\(((c.2.2.2.1.getD s.1.1.toNat 0)<(c.2.2.1.length:Int))/\(cnd (!(((c.2.1.getD (Int.toNat (c.2.2.2.1.getD s.1.1.toNat 0)) 0)==s.1.1)&&((c.2.2.1.getD (Int.toNat (c.2.2.2.1.getD s.1.1.toNat 0)) 0)==s.1.1))) (K (false,())) ((inK .i64 (s.1.1+1))/\(next (((s.1.1+1),()),()))))))))) (bi (S:=bpq) (fun s1=>(fun next1=>((inK .i64 s1.1.1)->(cnd (decide (s1.1.1<(c.2.2.2.2.length:Int))) ((0<=s1.1.1)/\((s1.1.1<(c.2.2.2.2.length:Int))/\(cnd ((List.length (c.2.2.2.2.getD s1.1.1.toNat []):Int) != (c.2.1.length:Int)) (K (false,())) (bi (S:=bpq) (fun s2=>(fun next2=>((inK .i64 s2.1.1)->(cnd (decide (s2.1.1<(List.length (c.2.2.2.2.getD s1.1.1.toNat []):Int))) (jd (S:=(Unit×Unit)) (fun s3=>((inK .i64 (s2.1.1+1))/\(next2 (((s2.1.1+1),()),())))) (fun k=>((0<=s2.1.1)/\((s2.1.1<(List.length (c.2.2.2.2.getD s1.1.1.toNat []):Int))/\((0<=s1.1.1)/\((s1.1.1<(c.2.2.1.length:Int))/\((0<=s2.1.1)/\((s2.1.1<(c.2.1.length:Int))/\(cnd ((c.2.2.1.getD s1.1.1.toNat 0) != (c.2.1.getD s2.1.1.toNat 0)) (cnd ((List.getD (c.2.2.2.2.getD s1.1.1.toNat []) s2.1.1.toNat 0) != (-1)) (K (false,())) (k ((),()))) ((inK .i64 ((c.2.1.length:Int)-1))/\((((!(inR (List.getD (c.2.2.2.2.getD s1.1.1.toNat []) s2.1.1.toNat 0) 0 ((c.2.1.length:Int)-1)))=false)->(((List.getD (c.2.2.2.2.getD s1.1.1.toNat []) s2.1.1.toNat 0)<(c.2.1.length:Int))/\(((List.getD (c.2.2.2.2.getD s1.1.1.toNat []) s2.1.1.toNat 0)<(c.2.2.1.length:Int))/\(0<=(List.getD (c.2.2.2.2.getD s1.1.1.toNat []) s2.1.1.toNat 0)))))/\((((!(inR (List.getD (c.2.2.2.2.getD s1.1.1.toNat []) s2.1.1.toNat 0) 0 ((c.2.1.length:Int)-1)))=false)->((s1.1.1<(c.2.1.length:Int))/\(0<=s1.1.1)))/\((((!(inR (List.getD (c.2.2.2.2.getD s1.1.1.toNat []) s2.1.1.toNat 0) 0 ((c.2.1.length:Int)-1)))=false)->((s2.1.1<(c.2.2.1.length:Int))/\(0<=s2.1.1)))/\(cnd ((!(inR (List.getD (c.2.2.2.2.getD s1.1.1.toNat []) s2.1.1.toNat 0) 0 ((c.2.1.length:Int)-1)))||(!(((c.2.1.getD (Int.toNat (List.getD (c.2.2.2.2.getD s1.1.1.toNat []) s2.1.1.toNat 0)) 0)==(c.2.1.getD s1.1.1.toNat 0))&&((c.2.2.1.getD (Int.toNat (List.getD (c.2.2.2.2.getD s1.1.1.toNat []) s2.1.1.toNat 0)) 0)==(c.2.2.1.getD s2.1.1.toNat 0))))) (K (false,())) (k ((),())))))))))))))))) ((inK .i64 (s1.1.1+1))/\(next1 (((s1.1.1+1),()),()))))))) ((0,()),()))))) (K (true,())))))) ((0,()),())))))) ((0,()),())))))))
theorem aha(c:bo)(hok:ae (okL da.args (c,())))(hpre:ae (da.pre (c,()))):sf c (fun r=>r=da.res (c,())):=by
 simp only[da,okL,T.oks,T.ok,ap,ae,a0e,a0c,a0i]at hok hpre
 try dsimp only[T.den]at hok hpre
 unfold sf;refine⟨by grind[cnd,cg,al,inR],by grind[cnd,cg,al,inR],a8 (fun hc=>?_) (fun hc=>⟨by rw[al];have:=hok.2.1.1;grind[cnd,cg,al],a8 (fun hd=>?_) (fun hd=>?_)⟩)⟩
 ·simp only[da];rw[am8];intro h;have h1:=h.ob;have h2:=h.m;have h3:=h.lt;have h4:=h.fr;have h5:=h.to;simp only[inR]at hc;grind[cnd,cg,al]
 ·simp only[da];rw[am8];intro h;have h1:=h.li;have h2:=h.ids;have h3:=h.lc;grind[cnd,cg,al]
 simp only[inR,a18,a2d,a0a,a04,a2j,a1j]at hc hd;obtain⟨⟨⟨⟨hob,hm⟩,hlt⟩,hfr⟩,hto⟩:=hc;obtain⟨⟨hli,hids⟩,hlc⟩:=hd;have bad:¬ShapeP c->(false,())=da.res (c,()):=fun h=>by simp only[da];rw[am8 h]
 refine lk (n:=c.2.2.2.1.length) (fun x=>∀y:Int,0<=y->y<x->c.2.1.getD (c.2.2.2.1.getD y.toNat 0).toNat 0=y/\c.2.2.1.getD (c.2.2.2.1.getD y.toNat 0).toNat 0=y) (by omega) (by intro y h0 h1;omega) ?_ ?_
 ·intro x next h0 h1 hP hn hin
  have hb:=kv.1 hids x h0 h1
  try dsimp only
  refine ao (fun _=>⟨h0,h1,hb.1,hb.2,by omega,a8 (fun hx=>bad fun h=>?_) (fun hx=>?_)⟩) (fun h=>absurd h1 h)
  ·have:=h.idt x h0 (by omega);rw[this.1,this.2]at hx;simp at hx
  ·simp only[a2d,a0a,a0s]at hx;refine⟨by rw[al];(try dsimp only);omega,hn fun y y0 y1=>?_⟩;by_cases e:y=x
   ·rw[e];exact hx
   ·exact hP y y0 (by omega)
 intro next hidt hin
 refine ao (fun h=>absurd h (by dsimp only;omega)) (fun _=>?_);refine lk (n:=c.2.2.2.2.length) (fun f=>∀f':Int,0<=f'->f'<f->(c.2.2.2.2.getD f'.toNat []).length=c.2.1.length/\∀g:Int,0<=g->g<c.2.1.length->uc c f' g=true) (by omega) (by intro y h0 h1;omega) ?_ ?_
 ·intro f next h0 h1 hP hn hin
  try dsimp only
  refine ao (fun _=>⟨h0,h1,a8 (fun hx=>bad fun h=>?_) (fun hx=>?_)⟩) (fun h=>absurd h1 h)
  ·have:=h.row f h0 (by omega);rw[this]at hx;simp at hx
  simp only[a1j]at hx;refine lk (n:=(c.2.2.2.2.getD f.toNat []).length) (fun g=>∀g':Int,0<=g'->g'<g->uc c f g'=true) (by omega) (by intro y h0 h1;omega) ?_ ?_
  ·intro g next3 g0 g1 hP3 hn3 hin3
   try dsimp only
   refine ao (fun _=>?_) (fun h=>absurd g1 h);refine g8 (fun _=>uc c f g=true) (fun _ hcell=>⟨by rw[al];(try dsimp only);omega,hn3 fun g' y0 y1=>?_⟩) (fun k hk=>?_)
   ·by_cases e:g'=g
    ·rw[e];exact hcell
    ·exact hP3 g' y0 (by omega)
   have hcell:∀b,uc c f g=b->b=false->¬ShapeP c:=fun b h1 h2 h=>by have:=h.cell f g h0 (by omega) g0 (by omega);rw[h1,h2]at this;cases this
   have hk':=hk ((),());obtain⟨v,hv⟩:∃v,(c.2.2.2.2.getD f.toNat []).getD g.toNat 0=v:=⟨_,rfl⟩;have hR:uc c f g=ya c f g v:=by unfold uc gj;rw[hv]
   rw[hR]at hk';rw[hR]at hcell;rw[hv];clear hP3 hn3 hP hn hk hR hv hidt hok;refine⟨g0,g1,h0,by omega,g0,by omega,a8 (fun ha=>a8 (fun hb=>bad ?_) (fun hb=>hk' ?_)) (fun ha=>⟨by rw[al];(try dsimp only);omega,fun hv=>?_,fun _=>⟨by omega,h0⟩,fun _=>⟨by omega,g0⟩,a8 (fun hb=>bad ?_) (fun hb=>hk' ?_)⟩)⟩
   ·exact hcell _ rfl (by grind[cnd,cg,al,ya])
   ·grind[cnd,cg,al,ya]
   ·simp only[inR,a2d,a0a,a04]at hv;omega
   ·exact hcell _ rfl (by simp only[inR]at hb;grind[cnd,cg,al,ya])
   ·simp only[inR]at hb;grind[cnd,cg,al,ya]
  ·intro next3 hP3 hin3;refine ao (fun h=>absurd h (by dsimp only;omega)) (fun _=>⟨by rw[al];(try dsimp only);omega,hn fun f' y0 y1=>?_⟩);by_cases e:f'=f
   ·rw[e];exact⟨by omega,fun g g0 g1=>hP3 g g0 (by omega)⟩
   ·exact hP f' y0 (by omega)
 ·intro next2 hP2 hin2;refine ao (fun h=>absurd h (by dsimp only;omega)) (fun _=>?_);simp only[da];rw[bcl ⟨hob,by omega,by omega,hfr,hto,by omega,hids,by omega,fun x a b=>hidt x a (by omega),fun f a b=>(hP2 f a (by omega)).1,fun f g a b d e=>(hP2 f a (by omega)).2 g d e⟩]
theorem agd:bt Tryz.prog 125 da:=cf (Φ:=agz) (ai sm (ai aad (ai tc (ai ais aq)))) bj (by kernel_rfl) (fn:=Tryz.f125) (c:=bf Tryz.f125) (by kernel_rfl) (by kernel_rfl) (by kernel_rfl) da rfl af5 (cu [(2,43),(20,15),(4,28),(23,26)]) (by kernel_rfl) (by kernel_rfl) (by kernel_rfl) (by decide) (fun x K=>sf x.1 K) (fun _ _=>by kernel_rfl) (fun x h1 h2=>aha x.1 h1 h2)
theorem ShapeP.frm{c:bo}(h:ShapeP c){f:Int}(h0:0<=f)(h1:f<c.2.1.length):0<=c.2.1.getD f.toNat 0/\c.2.1.getD f.toNat 0<c.1/\0<=c.2.2.1.getD f.toNat 0/\c.2.2.1.getD f.toNat 0<c.1:=by have a:=kv.1 h.fr f h0 h1;have b:=kv.1 h.to f h0 (by have:=h.lt;omega);exact⟨a.1,a.2,b.1,b.2⟩
theorem ShapeP.idn{c:bo}(h:ShapeP c){x:Int}(h0:0<=x)(h1:x<c.1):0<=c.2.2.2.1.getD x.toNat 0/\c.2.2.2.1.getD x.toNat 0<c.2.1.length/\c.2.1.getD (c.2.2.2.1.getD x.toNat 0).toNat 0=x/\c.2.2.1.getD (c.2.2.2.1.getD x.toNat 0).toNat 0=x:=by have a:=kv.1 h.ids x h0 (by have:=h.li;omega);have b:=h.idt x h0 h1;exact⟨a.1,a.2,b.1,b.2⟩
theorem ShapeP.yes{c:bo}(h:ShapeP c){f g:Int}(h0:0<=f)(h1:f<c.2.1.length)(g0:0<=g)(g1:g<c.2.1.length)(e:c.2.2.1.getD f.toNat 0=c.2.1.getD g.toNat 0) :
  0<=gj c f g/\gj c f g<c.2.1.length/\c.2.1.getD (gj c f g).toNat 0=c.2.1.getD f.toNat 0/\c.2.2.1.getD (gj c f g).toNat 0=c.2.2.1.getD g.toNat 0:=by
 have:=h.cell f g h0 h1 g0 g1;unfold uc ya at this;rw[d0 e]at this;simpa using this
theorem ShapeP.no{c:bo}(h:ShapeP c){f g:Int}(h0:0<=f)(h1:f<c.2.1.length)(g0:0<=g)(g1:g<c.2.1.length)(e:c.2.2.1.getD f.toNat 0≠c.2.1.getD g.toNat 0):gj c f g=-1:=by have:=h.cell f g h0 h1 g0 g1;unfold uc ya at this;rw[ds e]at this;simpa using this
theorem ShapeP.comp{c:bo}(h:ShapeP c){f g:Int}(h0:0<=f)(h1:f<c.2.1.length)(g0:0<=g)(g1:g<c.2.1.length):0<=gj c f g<->c.2.2.1.getD f.toNat 0=c.2.1.getD g.toNat 0:=by
 constructor
 ·intro h2;by_cases e:c.2.2.1.getD f.toNat 0=c.2.1.getD g.toNat 0
  ·exact e
  ·have:=h.no h0 h1 g0 g1 e;omega
 ·intro e;exact (h.yes h0 h1 g0 g1 e).1
def ug(c:bo)(f:Int):Option (Int×Int×Int×Int):=if gj c (c.2.2.2.1.getD (c.2.1.getD f.toNat 0).toNat 0) f≠f\/gj c f (c.2.2.2.1.getD (c.2.2.1.getD f.toNat 0).toNat 0)≠f then some (1,f,0,0)else none
def xc(c:bo)(f g h:Int):Option (Int×Int×Int×Int):=if c.2.2.1.getD g.toNat 0=c.2.1.getD h.toNat 0/\gj c (gj c f g) h≠gj c f (gj c g h)then some (2,f,g,h)else none
def uq(c:bo)(f g:Int):Option (Int×Int×Int×Int):=if c.2.2.1.getD f.toNat 0=c.2.1.getD g.toNat 0 then lq (xc c f g) c.2.1.length 0 else none
def x5(c:bo)(f:Int):Option (Int×Int×Int×Int):=lq (uq c f) c.2.1.length 0
def og(c:bo):Int×Int×Int×Int:=orR (lq (ug c) c.2.1.length 0) (orR (lq (x5 c) c.2.1.length 0) (0,0,0,0))
def gi:Ct:=⟨[(.pt gn)],[false],fun x=>[ShapeP x.1],[(false,(.fz (.int .i64))),(false,(.fz (.int .i64))),(false,(.fz (.int .i64))),(false,(.fz (.int .i64)))],fun x=>((og x.1).1,(og x.1).2.1,(og x.1).2.2.1,(og x.1).2.2.2,()),false,none⟩
def ah7:Ann:=(.s .n (.s .n (.s (.s .n (.l [(7,(.d (.int .i64)))] [] [0,6] .n)) (.s (.s .n (.l [(8,(.d (.int .i64)))] [] [0,6] (.s .n (.s (.s .n (.l [(9,(.d (.int .i64)))] [] [0,6,8] (.s .n (.s (.j [] [] [0,6,8,9] (.s .n (.s .n (.l [(10,(.d (.int .i64)))] [] [0,6,8,9] .n)))) .n)))) .n)))) .n))))
def ah8:FuncId->Option Ct:=lkp [(104,fu),(79,iz)]
def ur(c:bo)(K:Int×Int×Int×Int×Unit->Prop):Prop:=(bi (S:=bpq) (fun s=>(fun next=>((inK .i64 s.1.1)->(cnd (decide (s.1.1<(c.2.1.length:Int))) ((0<=s.1.1)/\((s.1.1<(c.2.1.length:Int))/\((0<=(c.2.1.getD s.1.1.toNat 0))/\(((c.2.1.getD s.1.1.toNat 0)<(c.2.2.2.1.length:Int))/\((0<=(c.2.2.2.1.getD (Int.toNat (c.2.1.getD s.1.1.toNat 0)) 0))/\(((c.2.2.2.1.getD (Int.toNat (c.2.1.getD s.1.1.toNat 0)) 0)<(c.2.2.2.2.length:Int))/\((0<=s.1.1)/\((s.1.1<(((List.length (c.2.2.2.2.getD (Int.toNat (c.2.2.2.1.getD (Int.toNat (c.2.1.getD s.1.1.toNat 0)) 0)) [])):Nat):Int))/\(((((gj c (c.2.2.2.1.getD (Int.toNat (c.2.1.getD s.1.1.toNat 0)) 0) s.1.1) != s.1.1)=false)->((s.1.1<(c.2.2.1.length:Int))/\(0<=s.1.1)))/\(((((gj c (c.2.2.2.1.getD (Int.toNat (c.2.1.getD s.1.1.toNat 0)) 0) s.1.1) != s.1.1)=false)->(((c.2.2.1.getD s.1.1.toNat 0)<(c.2.2.2.1.length:Int))/\(0<=(c.2.2.1.getD s.1.1.toNat 0))))/\(((((gj c (c.2.2.2.1.getD (Int.toNat (c.2.1.getD s.1.1.toNat 0)) 0) s.1.1) != s.1.1)=false)->((s.1.1<(c.2.2.2.2.length:Int))/\((0<=(c.2.2.2.1.getD (Int.toNat (c.2.2.1.getD s.1.1.toNat 0)) 0))/\(((c.2.2.2.1.getD (Int.toNat (c.2.2.1.getD s.1.1.toNat 0)) 0)<(List.length (c.2.2.2.2.getD s.1.1.toNat []):Int))/\(0<=s.1.1)))))/\(cnd (((gj c (c.2.2.2.1.getD (Int.toNat (c.2.1.getD s.1.1.toNat 0)) 0) s.1.1) != s.1.1)||((gj c s.1.1 (c.2.2.2.1.getD (Int.toNat (c.2.2.1.getD s.1.1.toNat 0)) 0)) != s.1.1)) (K (1,(s.1.1,(0,(0,()))))) ((inK .i64 (s.1.1+1))/\(next (((s.1.1+1),()),()))))))))))))))) (bi (S:=bpq) (fun s1=>(fun next1=>((inK .i64 s1.1.1)->(cnd (decide (s1.1.1<(c.2.1.length:Int))) (bi (S:=bpq) (fun s2=>(fun next2=>((inK .i64 s2.1.1)->(cnd (decide (s2.1.1<(c.2.1.length:Int))) (jd (S:=(Unit×Unit)) (fun s3=>((inK .i64 (s2.1.1+1))/\(next2 (((s2.1.1+1),()),())))) (fun k=>((0<=s1.1.1)/\((s1.1.1<(c.2.2.2.2.length:Int))/\((0<=s2.1.1)/\((s2.1.1<(List.length (c.2.2.2.2.getD s1.1.1.toNat []):Int))/\(cnd (decide ((gj c s1.1.1 s2.1.1)<0)) (k ((),())) (bi (S:=bpq) (fun s3=>(fun next3=>((inK .i64 s3.1.1)->(cnd (decide (s3.1.1<(c.2.1.length:Int))) ((0<=s2.1.1)/\((s2.1.1<(c.2.2.2.2.length:Int))/\((0<=s3.1.1)/\((s3.1.1<(List.length (c.2.2.2.2.getD s2.1.1.toNat []):Int))/\((((decide (0<=(gj c s2.1.1 s3.1.1)))=true)->((s1.1.1<(c.2.2.2.2.length:Int))/\((0<=s2.1.1)/\((s2.1.1<(List.length (c.2.2.2.2.getD s1.1.1.toNat []):Int))/\(0<=s1.1.1)))))/\((((decide (0<=(gj c s2.1.1 s3.1.1)))=true)->(((gj c s1.1.1 s2.1.1)<(c.2.2.2.2.length:Int))/\((0<=s3.1.1)/\((s3.1.1<(((List.length (c.2.2.2.2.getD (Int.toNat (gj c s1.1.1 s2.1.1)) [])):Nat):Int))/\(0<=(gj c s1.1.1 s2.1.1))))))/\((((decide (0<=(gj c s2.1.1 s3.1.1)))=true)->((s2.1.1<(c.2.2.2.2.length:Int))/\((0<=s3.1.1)/\((s3.1.1<(List.length (c.2.2.2.2.getD s2.1.1.toNat []):Int))/\(0<=s2.1.1)))))/\((((decide (0<=(gj c s2.1.1 s3.1.1)))=true)->((s1.1.1<(c.2.2.2.2.length:Int))/\((0<=(gj c s2.1.1 s3.1.1))/\(((gj c s2.1.1 s3.1.1)<(List.length (c.2.2.2.2.getD s1.1.1.toNat []):Int))/\(0<=s1.1.1)))))/\(cnd ((decide (0<=(gj c s2.1.1 s3.1.1)))&&((gj c (gj c s1.1.1 s2.1.1) s3.1.1) != (gj c s1.1.1 (gj c s2.1.1 s3.1.1)))) (K (2,(s1.1.1,(s2.1.1,(s3.1.1,()))))) ((inK .i64 (s3.1.1+1))/\(next3 (((s3.1.1+1),()),())))))))))))) (k ((),())))))) ((0,()),()))))))))) ((inK .i64 (s1.1.1+1))/\(next1 (((s1.1.1+1),()),()))))))) ((0,()),())) (K (0,(0,(0,(0,()))))))))) ((0,()),())))))) ((0,()),()))
theorem aiq(c:bo)(hok:ae (okL gi.args (c,())))(hpre:ae (gi.pre (c,()))):ur c (fun r=>r=gi.res (c,())):=by
 simp only[gi,okL,T.oks,T.ok,ap,ae,a0e,a0c,a0i]at hok hpre
 try dsimp only[T.den]at hok hpre
 unfold ur;have S:ShapeP c:=hpre;have hlt:=S.lt;have hli:=S.li;have hlc:=S.lc;have hmm:=S.m;have resq:∀a b d e,og c=(a,b,d,e)->(a,b,d,e,())=gi.res (c,()):=fun a b d e h=>by simp only[gi,h]
 refine lk (n:=c.2.1.length) (fun f=>lq (ug c) c.2.1.length 0=lq (ug c) ((c.2.1.length:Int)-f).toNat f) (by omega) ady ?_ ?_
 ·intro f next h0 h1 hP hn hin
  try dsimp only
  obtain⟨a1,a2,a3,a4⟩:=S.frm h0 h1;obtain⟨b1,b2,_,_⟩:=S.idn a1 a2;obtain⟨d1,d2,_,_⟩:=S.idn a3 a4;have r1:=S.row _ b1 b2;have r2:=S.row f h0 h1;refine ao (fun _=>⟨h0,h1,by omega,by omega,by omega,by omega,h0,by omega,fun _=>by omega,fun _=>by omega,fun _=>by omega,a8 (fun hx=>resq _ _ _ _ ?_) (fun hx=>⟨by rw[al];(try dsimp only);omega,hn ?_⟩)⟩) (fun h=>absurd h1 h)
  ·have:ug c f=some (1,f,0,0):=by unfold ug;rw[d0];simpa using hx
   unfold og;rw[hP,adz h1 this];rfl
  ·have:ug c f=none:=by unfold ug;rw[ds];simpa using hx
   rw[hP,adp h1 this]
 intro next hI hin
 rw[adi]at hI;refine ao (fun h=>absurd h (by dsimp only;omega)) (fun _=>?_);have hF:og c=orR (lq (x5 c) c.2.1.length 0) (0,0,0,0):=by unfold og;rw[hI];rfl
 refine lk (n:=c.2.1.length) (fun f=>lq (x5 c) c.2.1.length 0=lq (x5 c) ((c.2.1.length:Int)-f).toNat f) (by omega) ady ?_ ?_
 ·intro f next h0 h1 hP hn hin
  try dsimp only
  refine ao (fun _=>?_) (fun h=>absurd h1 h);have r1:=S.row f h0 h1;refine lk (n:=c.2.1.length) (fun g=>x5 c f=lq (uq c f) ((c.2.1.length:Int)-g).toNat g) (by omega) ady ?_ ?_
  ·intro g next3 g0 g1 hP3 hn3 hin3
   try dsimp only
   refine ao (fun _=>?_) (fun h=>absurd g1 h);have r2:=S.row g g0 g1;refine g8 (fun _=>uq c f g=none) (fun _ hG=>⟨by rw[al];(try dsimp only);omega,hn3 (by rw[hP3,adp g1 hG])⟩) (fun k hk=>?_);have hk':=hk ((),());refine⟨by omega,by omega,by omega,by omega,ao (fun hx=>hk' ?_) (fun hx=>?_)⟩
   ·unfold uq;rw[ds];intro e;have:=(S.comp h0 h1 g0 g1).2 e;omega
   have hfg:=(S.comp h0 h1 g0 g1).1 (by omega);obtain⟨y1,y2,_,_⟩:=S.yes h0 h1 g0 g1 hfg;refine lk (n:=c.2.1.length) (fun h=>uq c f g=lq (xc c f g) ((c.2.1.length:Int)-h).toNat h) (by omega) (by unfold uq;rw[d0 hfg];exact ady) ?_ ?_
   ·intro h next4 i0 i1 hP4 hn4 hin4
    try dsimp only
    refine ao (fun _=>?_) (fun h=>absurd i1 h);have r3:=S.row _ y1 y2;have cgh:=S.comp g0 g1 i0 i1;have ygh:=@ShapeP.yes c S g h g0 g1 i0 i1;refine⟨by omega,by omega,by omega,by omega,fun _=>by omega,fun _=>by omega,fun _=>by omega,fun he=>?_,a8 (fun hx=>resq _ _ _ _ ?_) (fun hx=>⟨by rw[al];(try dsimp only);omega,hn4 ?_⟩)⟩
    ·have:=ygh (cgh.1 (by simpa using he));omega
    ·have:xc c f g h=some (2,f,g,h):=by unfold xc;rw[d0];rw[←cgh];simpa using hx
     have e1:uq c f g=some (2,f,g,h):=by rw[hP4,adz i1 this]
     have e2:x5 c f=some (2,f,g,h):=by rw[hP3,adz g1 e1]
     rw[hF,hP,adz h1 e2];rfl
    ·have:xc c f g h=none:=by unfold xc;rw[ds];rw[←cgh];simpa using hx
     rw[hP4,adp i1 this]
   ·intro next4 hP4 hin4;rw[adi]at hP4;exact ao (fun h=>absurd h (by dsimp only;omega)) (fun _=>hk' hP4)
  ·intro next3 hP3 hin3;rw[adi]at hP3;exact ao (fun h=>absurd h (by dsimp only;omega)) (fun _=>⟨by rw[al];(try dsimp only);omega,hn (by rw[hP,adp h1 hP3])⟩)
 ·intro next2 hP2 hin2;rw[adi]at hP2;refine ao (fun h=>absurd h (by dsimp only;omega)) (fun _=>resq _ _ _ _ ?_);rw[hF,hP2];rfl
theorem ah9:bt Tryz.prog 126 gi:=cf (Φ:=ah8) (ai sm (ai z7 aq)) bj (by kernel_rfl) (fn:=Tryz.f126) (c:=bf Tryz.f126) (by kernel_rfl) (by kernel_rfl) (by kernel_rfl) gi rfl ah7 (cu [(5,38)]) (by kernel_rfl) (by kernel_rfl) (by kernel_rfl) (by decide) (fun x K=>ur x.1 K) (fun _ _=>by kernel_rfl) (fun x h1 h2=>aiq x.1 h1 h2)
def m7:Ct:=⟨[(.sl (.int .i64))],[false],fun x=>[x.1.length<=1099511627776],[(false,(.sl (.fz (.int .i64))))],fun x=>(x.1,()),false,none⟩
def aeo(list:List Int)(K:(List Int)×Unit->Prop):Prop:=((e9 0 list.length 8)/\(K (list,())))
theorem awe(list:List Int)(hok:ae (okL m7.args (list,())))(hpre:ae (m7.pre (list,()))):aeo list (fun r=>r=m7.res (list,())):=by
 simp only[m7,okL,T.oks,T.ok,ap,ae,a0e,a0c,a0i]at hok hpre
 try dsimp only[T.den]at hok hpre
 unfold aeo;have hl:list.length<=1099511627776:=hpre;exact⟨c9 (by omega),rfl⟩
theorem ab6:bt Tryz.prog 58 m7:=cf (Φ:=lkp []) aq bj (by kernel_rfl) (fn:=Tryz.f58) (c:=bf Tryz.f58) (by kernel_rfl) (by kernel_rfl) (by kernel_rfl) m7 rfl .n (cu []) (by kernel_rfl) (by kernel_rfl) (by kernel_rfl) (by decide) (fun x K=>aeo x.1 K) (fun _ _=>by kernel_rfl) (fun x h1 h2=>awe x.1 h1 h2)
structure PthsR (l:List ab):Prop where
 n:l.length<=1000000
 e:∀p∈l,p.2.length<=1000000
def ahm(c:bo)(ed:List Int):Int->List Int->Int
 |h,[]=>h
 |h,e::r=>ahm c ed (gj c h (ed.getD e.toNat 0)) r
def dc(c:bo)(ed:List Int)(p:ab):Int:=ahm c ed (c.2.2.2.1.getD p.1.toNat 0) p.2
def atb(c:bo)(ed:List Int):Int->List Int->Prop
 |h,[]=>True
 |h,e::r=>(0<=e/\e<ed.length)/\(0<=ed.getD e.toNat 0/\ed.getD e.toNat 0<c.2.1.length)/\c.2.2.1.getD h.toNat 0=c.2.1.getD (ed.getD e.toNat 0).toNat 0/\atb c ed (gj c h (ed.getD e.toNat 0)) r
structure AroP (t:pi) (p:ab):Prop where
 s:ShapeP t.1
 p0:0<=p.1
 p1:p.1<t.1.1
 c:atb t.1 t.2.2 (t.1.2.2.2.1.getD p.1.toNat 0) p.2
def ko:Ct:=⟨[aio,PathT],[true,true],fun x=>[AroP x.1 x.2.1],[(false,(.fz (.int .i64)))],fun x=>(dc x.1.1 x.1.2.2 x.2.1,()),false,none⟩
def ap4:Ann:=(.s .n (.s .n (.s (.s .n (.l [(5,(.d (.int .i64))),(6,(.d (.int .i64)))] [] [2,3] .n)) .n)))
def aaq(t:pi)(p:ab)(K:Int×Unit->Prop):Prop:=((0<=p.1)/\((p.1<(t.1.2.2.2.1.length:Int))/\(bi (S:=bpu) (fun s=>(fun next=>((inK .i64 s.1.1)->((inK .i64 s.1.2.1)->(cnd (decide (s.1.2.1<(p.2.length:Int))) ((0<=s.1.1)/\((s.1.1<(t.1.2.2.2.2.length:Int))/\((0<=s.1.2.1)/\((s.1.2.1<(p.2.length:Int))/\((0<=(p.2.getD s.1.2.1.toNat 0))/\(((p.2.getD s.1.2.1.toNat 0)<(t.2.2.length:Int))/\((0<=(t.2.2.getD (Int.toNat (p.2.getD s.1.2.1.toNat 0)) 0))/\(((t.2.2.getD (Int.toNat (p.2.getD s.1.2.1.toNat 0)) 0)<(List.length (t.1.2.2.2.2.getD s.1.1.toNat []):Int))/\((inK .i64 (s.1.2.1+1))/\(next (((List.getD (t.1.2.2.2.2.getD s.1.1.toNat []) (Int.toNat (t.2.2.getD (Int.toNat (p.2.getD s.1.2.1.toNat 0)) 0)) 0),((s.1.2.1+1),())),()))))))))))) (K (s.1.1,()))))))) (((t.1.2.2.2.1.getD p.1.toNat 0),(0,())),()))))
theorem arb(t:pi)(p:ab)(hok:ae (okL ko.args (t,p,())))(hpre:ae (ko.pre (t,p,()))):aaq t p (fun r=>r=ko.res (t,p,())):=by
 simp only[ko,okL,T.oks,T.ok,ap,ae,a0e,a0c,a0i]at hok hpre
 try dsimp only[T.den]at hok hpre
 unfold aaq;obtain⟨S,p0,p1,hc⟩:=hpre;have hid:=S.idn p0 p1;have hlc:=S.lc;have hli:=S.li;have hpl:p.2.length<=140737488355328:=by have:=hok.2.2.2.2.2.2.2.2.1;rw[cg]at this;exact this
 simp only[ko,dc];refine⟨p0,by omega,?_⟩;generalize t.1.2.2.2.1.getD p.1.toNat 0=h0 at *;refine bq (fun (q:bpu)=>0<=q.1.2.1/\q.1.2.1<=p.2.length/\0<=q.1.1/\q.1.1<t.1.2.1.length/\atb t.1 t.2.2 q.1.1 (p.2.drop q.1.2.1.toNat)/\ahm t.1 t.2.2 h0 p.2=ahm t.1 t.2.2 q.1.1 (p.2.drop q.1.2.1.toNat)) (fun (q:bpu)=>(p.2.length-q.1.2.1).toNat) ?_ ⟨by simp,by simp,hid.1,hid.2.1,hc,rfl⟩;rintro⟨⟨h,i,_⟩,_⟩ next ⟨i0,i1,a0,a1,a2,a3⟩ hnx
 intros
 try dsimp only at i0 i1 a0 a1 a2 a3 hnx⊢
 refine ao (fun hi=>?_) (fun hi=>?_)
 ·rw[nx p.2 0 i0 hi]at a2 a3;obtain⟨b1,b2,b3,b4⟩:=a2;have hr:=S.row h a0 a1;have y:=S.yes a0 a1 b2.1 b2.2 b3;refine⟨a0,by omega,i0,hi,b1.1,b1.2,b2.1,by rw[hr];exact b2.2,by rw[al];(try dsimp only);omega,hnx _ ⟨by dsimp only;omega,by dsimp only;omega,y.1,y.2.1,b4,?_⟩ (by dsimp only;omega)⟩;rw[a3];rfl
 ·rw[a3,qu p.2 (by omega)];rfl
theorem ag3:bt Tryz.prog 49 ko:=cf (Φ:=lkp []) aq bj (by kernel_rfl) (fn:=Tryz.f49) (c:=bf Tryz.f49) (by kernel_rfl) (by kernel_rfl) (by kernel_rfl) ko rfl ap4 (cu [(5,15)]) (by kernel_rfl) (by kernel_rfl) (by kernel_rfl) (by decide) (fun x K=>aaq x.1 x.2.1 K) (fun _ _=>by kernel_rfl) (fun x h1 h2=>arb x.1 x.2.1 h1 h2)
def fo:Ct:=⟨[(.pt kq),PathT],[false,true],fun x=>[AroP (x.1.2.1,(x.1.2.2.2,x.1.2.2.1)) x.2.1],[(false,(.fz (.int .i64)))],fun x=>(dc x.1.2.1 x.1.2.2.1 x.2.1,()),false,none⟩
def ag9:Ann:=(.s .n (.s .n (.s (.s .n (.l [(5,(.d (.int .i64))),(20,(.d (.int .i64)))] [] [0,18,19] .n)) .n)))
def tz(k:T.den kq)(p:ab)(K:Int×Unit->Prop):Prop:=((0<=p.1)/\((p.1<(k.2.1.2.2.2.1.length:Int))/\(bi (S:=bpu) (fun s=>(fun next=>((inK .i64 s.1.1)->((inK .i64 s.1.2.1)->(cnd (decide (s.1.2.1<(p.2.length:Int))) ((0<=s.1.2.1)/\((s.1.2.1<(p.2.length:Int))/\((0<=(p.2.getD s.1.2.1.toNat 0))/\(((p.2.getD s.1.2.1.toNat 0)<(k.2.2.1.length:Int))/\((0<=s.1.1)/\((s.1.1<(k.2.1.2.2.2.2.length:Int))/\((0<=(k.2.2.1.getD (Int.toNat (p.2.getD s.1.2.1.toNat 0)) 0))/\(((k.2.2.1.getD (Int.toNat (p.2.getD s.1.2.1.toNat 0)) 0)<(List.length (k.2.1.2.2.2.2.getD s.1.1.toNat []):Int))/\((inK .i64 (s.1.2.1+1))/\(next (((gj k.2.1 s.1.1 (k.2.2.1.getD (Int.toNat (p.2.getD s.1.2.1.toNat 0)) 0)),((s.1.2.1+1),())),()))))))))))) (K (s.1.1,()))))))) (((k.2.1.2.2.2.1.getD p.1.toNat 0),(0,())),()))))
theorem ahw(k:T.den kq)(p:ab)(hok:ae (okL fo.args (k,p,())))(hpre:ae (fo.pre (k,p,()))):tz k p (fun r=>r=fo.res (k,p,())):=by
 simp only[fo,okL,T.oks,T.ok,ap,ae,a0e,a0c,a0i]at hok hpre
 try dsimp only[T.den]at hok hpre
 unfold tz;obtain⟨S,p0,p1,hc⟩:=hpre
 try dsimp only at S p0 p1 hc
 have hid:=S.idn p0 p1;have hlc:=S.lc;have hli:=S.li;have hpl:p.2.length<=140737488355328:=by have:=hok.2.2.2.2.2.2.2.2.2.2.2.2.2.1;rw[cg]at this;exact this
 clear hok;simp only[fo,dc];refine⟨p0,by omega,?_⟩;generalize k.2.1.2.2.2.1.getD p.1.toNat 0=h0 at *;refine bq (fun (q:bpu)=>0<=q.1.2.1/\q.1.2.1<=p.2.length/\0<=q.1.1/\q.1.1<k.2.1.2.1.length/\atb k.2.1 k.2.2.1 q.1.1 (p.2.drop q.1.2.1.toNat)/\ahm k.2.1 k.2.2.1 h0 p.2=ahm k.2.1 k.2.2.1 q.1.1 (p.2.drop q.1.2.1.toNat)) (fun (q:bpu)=>(p.2.length-q.1.2.1).toNat) ?_ ⟨by simp,by simp,hid.1,hid.2.1,hc,rfl⟩;rintro⟨⟨h,i,_⟩,_⟩ next ⟨i0,i1,a0,a1,a2,a3⟩ hnx
 intros
 try dsimp only at i0 i1 a0 a1 a2 a3 hnx⊢
 refine ao (fun hi=>?_) (fun hi=>?_)
 ·rw[nx p.2 0 i0 hi]at a2 a3;obtain⟨b1,b2,b3,b4⟩:=a2;have hr:=S.row h a0 a1;have y:=S.yes a0 a1 b2.1 b2.2 b3;refine⟨i0,hi,b1.1,b1.2,a0,by omega,b2.1,by rw[hr];exact b2.2,by rw[al];(try dsimp only);omega,hnx _ ⟨by dsimp only;omega,by dsimp only;omega,y.1,y.2.1,b4,?_⟩ (by dsimp only;omega)⟩;rw[a3];rfl
 ·rw[a3,qu p.2 (by omega)];rfl
theorem yp:bt Tryz.prog 51 fo:=cf (Φ:=lkp [(79,iz)]) (ai z7 aq) bj (by kernel_rfl) (fn:=Tryz.f51) (c:=bf Tryz.f51) (by kernel_rfl) (by kernel_rfl) (by kernel_rfl) fo rfl ag9 (cu [(1,7),(5,511)]) (by kernel_rfl) (by kernel_rfl) (by kernel_rfl) (by decide) (fun x K=>tz x.1 x.2.1 K) (fun _ _=>by kernel_rfl) (fun x h1 h2=>ahw x.1 x.2.1 h1 h2)
def be(s:ac):Int->List Int->Int×Bool
 |n,[]=>(n,true)
 |n,e::r=>if inR e 0 ((s.2.1.length:Int)-1)=true/\s.2.1.getD e.toNat 0=n then be s (s.2.2.1.getD e.toNat 0) r else (0,false)
def gr:Ct:=⟨[(.pt SchemaT),(.int .i64),(.sl (.int .i64))],[false,false,false],fun x=>[x.1.2.1.length<=x.1.2.2.1.length],[(false,(.fz (.int .i64))),(false,(.fz .bool))],fun x=>((be x.1 x.2.1 x.2.2.1).1,(be x.1 x.2.1 x.2.2.1).2,()),false,none⟩
def aiu:Ann:=(.s .n (.s (.s .n (.l [(1,(.d (.int .i64))),(12,(.d (.int .i64)))] [] [0,10,11] .n)) .n))
def vw(s:ac)(node:Int)(edges:List Int)(K:Int×Bool×Unit->Prop):Prop:=(bi (S:=bpu) (fun s1=>(fun next=>((inK .i64 s1.1.1)->((inK .i64 s1.1.2.1)->(cnd (decide (s1.1.2.1<(edges.length:Int))) ((0<=s1.1.2.1)/\((s1.1.2.1<(edges.length:Int))/\((inK .i64 ((s.2.1.length:Int)-1))/\((((!(inR (edges.getD s1.1.2.1.toNat 0) 0 ((s.2.1.length:Int)-1)))=false)->(((edges.getD s1.1.2.1.toNat 0)<(s.2.1.length:Int))/\(0<=(edges.getD s1.1.2.1.toNat 0))))/\(cnd ((!(inR (edges.getD s1.1.2.1.toNat 0) 0 ((s.2.1.length:Int)-1)))||((s.2.1.getD (Int.toNat (edges.getD s1.1.2.1.toNat 0)) 0) != s1.1.1)) (K (0,(false,()))) ((0<=(edges.getD s1.1.2.1.toNat 0))/\(((edges.getD s1.1.2.1.toNat 0)<(s.2.2.1.length:Int))/\((inK .i64 (s1.1.2.1+1))/\(next (((s.2.2.1.getD (Int.toNat (edges.getD s1.1.2.1.toNat 0)) 0),((s1.1.2.1+1),())),())))))))))) (K (s1.1.1,(true,())))))))) ((node,(0,())),()))
theorem ajq(s:ac)(node:Int)(edges:List Int)(hok:ae (okL gr.args (s,node,edges,())))(hpre:ae (gr.pre (s,node,edges,()))):vw s node edges (fun r=>r=gr.res (s,node,edges,())):=by
 simp only[gr,okL,T.oks,T.ok,ap,ae,a0e,a0c,a0i]at hok hpre
 try dsimp only[T.den]at hok hpre
 unfold vw;refine bq (fun (s1:bpu)=>0<=s1.1.2.1/\s1.1.2.1<=edges.length/\be s node edges=be s s1.1.1 (edges.drop s1.1.2.1.toNat)) (fun (s1:bpu)=>(edges.length-s1.1.2.1).toNat) ?_ (by simp);rintro⟨⟨nd,i,_⟩,_⟩ next ⟨h0,h1,h2⟩ hn ha hin
 simp only at h0 h1 h2 hn⊢;refine ao (fun hc=>?_) (fun hc=>?_)
 ·rw[nx edges 0 h0 hc]at h2;simp only[be]at h2;generalize edges.getD i.toNat 0=e at *
  grind[cnd,cg,al,gr,inR]
 ·rw[qu edges (by omega)]at h2;simp[be,h2,gr]
theorem ajm:bt Tryz.prog 91 gr:=cf (Φ:=lkp [(72,ir)]) (ai tc aq) bj (by kernel_rfl) (fn:=Tryz.f91) (c:=bf Tryz.f91) (by kernel_rfl) (by kernel_rfl) (by kernel_rfl) gr rfl aiu (cu []) (by kernel_rfl) (by kernel_rfl) (by kernel_rfl) (by decide) (fun x K=>vw x.1 x.2.1 x.2.2.1 K) (fun _ _=>by kernel_rfl) (fun x h1 h2=>ajq x.1 x.2.1 x.2.2.1 h1 h2)
def aw(s:ac)(p:ab):Int×Bool:=if inR p.1 0 (s.1-1)=true/\p.2.length<=6 then be s p.1 p.2 else (0,false)
def fh:Ct:=⟨[(.pt SchemaT),PathT],[false,true],fun x=>[x.1.2.1.length<=x.1.2.2.1.length,inK .i64 (x.1.1-1)],[(false,(.fz (.int .i64))),(false,(.fz .bool))],fun x=>((aw x.1 x.2.1).1,(aw x.1 x.2.1).2,()),false,none⟩
def am0:FuncId->Option Ct:=lkp [(91,gr),(72,ir)]
def yx(s:ac)(p:ab)(K:Int×Bool×Unit->Prop):Prop:=((inK .i64 (s.1-1))/\(cnd ((!(inR p.1 0 (s.1-1)))||(decide (6<(p.2.length:Int)))) (K (0,(false,()))) ((s.2.1.length<=s.2.2.1.length)/\(K ((be s p.1 p.2).1,((be s p.1 p.2).2,()))))))
theorem aoe(s:ac)(p:ab)(hok:ae (okL fh.args (s,p,())))(hpre:ae (fh.pre (s,p,()))):yx s p (fun r=>r=fh.res (s,p,())):=by
 simp only[fh,okL,T.oks,T.ok,ap,ae,a0e,a0c,a0i]at hok hpre
 try dsimp only[T.den]at hok hpre
 unfold yx;simp only[fh,aw]
 grind[cnd,cg,al]
theorem lx:bt Tryz.prog 74 fh:=cf (Φ:=am0) (ai ajm (ai tc aq)) bj (by kernel_rfl) (fn:=Tryz.f74) (c:=bf Tryz.f74) (by kernel_rfl) (by kernel_rfl) (by kernel_rfl) fh rfl .n (cu [(1,15)]) (by kernel_rfl) (by kernel_rfl) (by kernel_rfl) (by decide) (fun x K=>yx x.1 x.2.1 K) (fun _ _=>by kernel_rfl) (fun x h1 h2=>aoe x.1 x.2.1 h1 h2)
def bda(s:ac)(p q:ab):Bool:=(aw s p).2&&(aw s q).2&&decide (p.1=q.1)&&decide ((aw s p).1=(aw s q).1)
def u6(s:ac):List ab->List ab->Bool
 |p::l,q::r=>bda s p q&&u6 s l r
 |_,_=>true
def bd(s:ac):Bool:=inR s.1 0 8&&decide (s.2.1.length<=8)&&decide (s.2.2.1.length=s.2.1.length)&&bm s.2.1 s.1&&bm s.2.2.1 s.1&&decide (s.2.2.2.1.length<=8)&&decide (s.2.2.2.2.length=s.2.2.2.1.length)&&u6 s s.2.2.2.1 s.2.2.2.2
def dx:Ct:=⟨[(.pt SchemaT)],[false],fun x=>[],[(false,(.fz .bool))],fun x=>(bd x.1,()),false,none⟩
def ag6:Ann:=(.s .n (.s .n (.s .n (.s (.s .n (.l [(85,(.d (.int .i64)))] [] [0,83,84] .n)) .n))))
def ahb:FuncId->Option Ct:=lkp [(74,fh),(72,ir),(73,l7)]
def tq(s:ac)(K:Bool×Unit->Prop):Prop:=((((((!(inR s.1 0 8))||(decide (8<(s.2.1.length:Int))))||((s.2.2.1.length:Int) != (s.2.1.length:Int)))=false)->(inK .i64 (s.1-1)))/\(((((((!(inR s.1 0 8))||(decide (8<(s.2.1.length:Int))))||((s.2.2.1.length:Int) != (s.2.1.length:Int)))||(!(bm s.2.1 s.1)))=false)->(inK .i64 (s.1-1)))/\(cnd (((((!(inR s.1 0 8))||(decide (8<(s.2.1.length:Int))))||((s.2.2.1.length:Int) != (s.2.1.length:Int)))||(!(bm s.2.1 s.1)))||(!(bm s.2.2.1 s.1))) (K (false,())) (cnd ((decide (8<(s.2.2.2.1.length:Int)))||((s.2.2.2.2.length:Int) != (s.2.2.2.1.length:Int))) (K (false,())) (bi (S:=bpq) (fun s1=>(fun next=>((inK .i64 s1.1.1)->(cnd (decide (s1.1.1<(s.2.2.2.1.length:Int))) ((0<=s1.1.1)/\((s1.1.1<(s.2.2.2.1.length:Int))/\((0<=s1.1.1)/\((s1.1.1<(s.2.2.2.2.length:Int))/\((s.2.1.length<=s.2.2.1.length)/\((inK .i64 (s.1-1))/\((s.2.1.length<=s.2.2.1.length)/\((inK .i64 (s.1-1))/\(cnd ((((!(aw s (s.2.2.2.1.getD s1.1.1.toNat (0,[]))).2)||(!(aw s (s.2.2.2.2.getD s1.1.1.toNat (0,[]))).2))||((s.2.2.2.1.getD s1.1.1.toNat (0,[])).1 != (s.2.2.2.2.getD s1.1.1.toNat (0,[])).1))||((aw s (s.2.2.2.1.getD s1.1.1.toNat (0,[]))).1 != (aw s (s.2.2.2.2.getD s1.1.1.toNat (0,[]))).1)) (K (false,())) ((inK .i64 (s1.1.1+1))/\(next (((s1.1.1+1),()),())))))))))))) (K (true,())))))) ((0,()),()))))))
theorem aih(s:ac)(hok:ae (okL dx.args (s,())))(hpre:ae (dx.pre (s,()))):tq s (fun r=>r=dx.res (s,())):=by
 simp only[dx,okL,T.oks,T.ok,ap,ae,a0e,a0c,a0i]at hok hpre
 try dsimp only[T.den]at hok hpre
 unfold tq;refine⟨by grind[cnd,cg,al,inR],by grind[cnd,cg,al,inR],a8 (fun hc=>?_) (fun hc=>a8 (fun hd=>?_) (fun hd=>?_))⟩
 ·grind[cnd,cg,al,dx,bd]
 ·grind[cnd,cg,al,dx,bd]
 have he:bd s=u6 s s.2.2.2.1 s.2.2.2.2:=by grind[cnd,cg,al,bd]
 simp only[dx,he];simp only[inR,a18,a2d,a0a,a04,a2j,a1j]at hc hd;refine bq (fun (s1:bpq)=>0<=s1.1.1/\s1.1.1<=s.2.2.2.1.length/\u6 s s.2.2.2.1 s.2.2.2.2=u6 s (s.2.2.2.1.drop s1.1.1.toNat) (s.2.2.2.2.drop s1.1.1.toNat)) (fun (s1:bpq)=>(s.2.2.2.1.length-s1.1.1).toNat) ?_ (by simp);rintro⟨⟨i,_⟩,_⟩ next ⟨h0,h1,h2⟩ hn hin
 simp only at h0 h1 h2 hn⊢;refine ao (fun hx=>?_) (fun hx=>?_)
 ·rw[nx s.2.2.2.1 (0,[]) h0 hx,nx s.2.2.2.2 (0,[]) h0 (by omega)]at h2;simp only[u6,bda]at h2;generalize s.2.2.2.1.getD i.toNat (0,[])=p at *;generalize s.2.2.2.2.getD i.toNat (0,[])=q at *;refine⟨by omega,by omega,by omega,by omega,by omega,by rw[al];(try dsimp only);omega,by omega,by rw[al];(try dsimp only);omega,a8 (fun hy=>?_) (fun hy=>?_)⟩
  ·grind[cnd,cg,al]
  ·grind[cnd,cg,al]
 ·rw[qu s.2.2.2.1 (by omega)]at h2;simp[u6,h2]
theorem si:bt Tryz.prog 45 dx:=cf (Φ:=ahb) (ai lx (ai tc (ai ais aq))) bj (by kernel_rfl) (fn:=Tryz.f45) (c:=bf Tryz.f45) (by kernel_rfl) (by kernel_rfl) (by kernel_rfl) dx rfl ag6 (cu [(1,51),(3,19)]) (by kernel_rfl) (by kernel_rfl) (by kernel_rfl) (by decide) (fun x K=>tq x.1 K) (fun _ _=>by kernel_rfl) (fun x h1 h2=>aih x.1 h1 h2)
def mw:Ct:=⟨[(.int .i64),(.int .i64),(.int .i64)],[false,false,false],fun x=>[],[(false,(.fz .bool))],fun x=>(inR x.1 x.2.1 x.2.2.1,()),false,none⟩
def afx(n:Int)(low:Int)(high:Int)(K:Bool×Unit->Prop):Prop:=(K (((decide (low<=n))&&(decide (n<=high))),()))
theorem axb(n:Int)(low:Int)(high:Int)(hok:ae (okL mw.args (n,low,high,())))(hpre:ae (mw.pre (n,low,high,()))):afx n low high (fun r=>r=mw.res (n,low,high,())):=by
 simp only[mw,okL,T.oks,T.ok,ap,ae,a0e,a0c,a0i]at hok hpre
 try dsimp only[T.den]at hok hpre
 unfold afx
 grind[cnd,cg,al,mw,inR]
theorem aeg:bt Tryz.prog 64 mw:=cf (Φ:=lkp []) aq bj (by kernel_rfl) (fn:=Tryz.f64) (c:=bf Tryz.f64) (by kernel_rfl) (by kernel_rfl) (by kernel_rfl) mw rfl .n (cu []) (by kernel_rfl) (by kernel_rfl) (by kernel_rfl) (by decide) (fun x K=>afx x.1 x.2.1 x.2.2.1 K) (fun _ _=>by kernel_rfl) (fun x h1 h2=>axb x.1 x.2.1 x.2.2.1 h1 h2)
def jk:Ct:=⟨[(.int .i64),(.sl (.int .i64))],[false,false],fun x=>[],[(false,(.fz .bool))],fun x=>(bm x.2.1 x.1,()),false,none⟩
def atc:Ann:=(.s .n (.s (.s .n (.l [(5,(.d (.int .i64)))] [] [0,1] .n)) .n))
def aee(n:Int)(f:List Int)(K:Bool×Unit->Prop):Prop:=(bi (S:=bpq) (fun s=>(fun next=>((inK .i64 s.1.1)->(cnd (decide (s.1.1<(f.length:Int))) ((0<=s.1.1)/\((s.1.1<(f.length:Int))/\((((decide ((f.getD s.1.1.toNat 0)<0))=false)->((s.1.1<(f.length:Int))/\(0<=s.1.1)))/\(cnd ((decide ((f.getD s.1.1.toNat 0)<0))||(decide (n<=(f.getD s.1.1.toNat 0)))) (K (false,())) ((inK .i64 (s.1.1+1))/\(next (((s.1.1+1),()),()))))))) (K (true,())))))) ((0,()),()))
theorem av6(n:Int)(f:List Int)(hok:ae (okL jk.args (n,f,())))(hpre:ae (jk.pre (n,f,()))):aee n f (fun r=>r=jk.res (n,f,())):=by
 simp only[jk,okL,T.oks,T.ok,ap,ae,a0e,a0c,a0i]at hok hpre
 try dsimp only[T.den]at hok hpre
 unfold aee;refine bq (fun (s:bpq)=>0<=s.1.1/\s.1.1<=f.length/\bm f n=bm (f.drop s.1.1.toNat) n) (fun (s:bpq)=>(f.length-s.1.1).toNat) ?_ (by simp);rintro⟨⟨i,_⟩,_⟩ next ⟨h0,h1,h2⟩ hn hin
 simp only at h0 h1 h2 hn⊢;refine ao (fun hc=>?_) (fun hc=>?_)
 ·rw[nx f 0 h0 hc]at h2;simp only[bm,a3m]at h2
  grind[cnd,cg,al,jk,bm,inR]
 ·rw[qu f (by omega)]at h2
  grind[cnd,cg,al,jk,bm]
theorem yf:bt Tryz.prog 65 jk:=cf (Φ:=lkp []) aq bj (by kernel_rfl) (fn:=Tryz.f65) (c:=bf Tryz.f65) (by kernel_rfl) (by kernel_rfl) (by kernel_rfl) jk rfl atc (cu []) (by kernel_rfl) (by kernel_rfl) (by kernel_rfl) (by decide) (fun x K=>aee x.1 x.2.1 K) (fun _ _=>by kernel_rfl) (fun x h1 h2=>av6 x.1 x.2.1 h1 h2)
def gv(s:ac)(p:ab):Int:=if p.2.length=0 then p.1 else s.2.2.1.getD (p.2.getD (p.2.length-1) 0).toNat 0
def jx:Ct:=⟨[SchemaT,PathT],[true,true],fun x=>[bm x.2.1.2 x.1.2.2.1.length=true],[(false,(.fz (.int .i64)))],fun x=>(gv x.1 x.2.1,()),false,none⟩
def aer(s:ac)(p:ab)(K:Int×Unit->Prop):Prop:=(cnd ((p.2.length:Int)==0) (K (p.1,())) ((inK .i64 ((p.2.length:Int)-1))/\((0<=((p.2.length:Int)-1))/\((((p.2.length:Int)-1)<(p.2.length:Int))/\((0<=(p.2.getD (Int.toNat ((p.2.length:Int)-1)) 0))/\(((p.2.getD (Int.toNat ((p.2.length:Int)-1)) 0)<(s.2.2.1.length:Int))/\(K ((s.2.2.1.getD (Int.toNat (p.2.getD (Int.toNat ((p.2.length:Int)-1)) 0)) 0),()))))))))
theorem av8(s:ac)(p:ab)(hok:ae (okL jx.args (s,p,())))(hpre:ae (jx.pre (s,p,()))):aer s p (fun r=>r=jx.res (s,p,())):=by
 simp only[jx,okL,T.oks,T.ok,ap,ae,a0e,a0c,a0i]at hok hpre
 try dsimp only[T.den]at hok hpre
 unfold aer;simp only[jx,gv];refine a8 (fun hc=>?_) (fun hc=>?_)
 ·grind[cnd,cg,al]
 ·simp at hc;have hl:0<p.2.length:=by grind[cnd,cg,al]
  have hi:((p.2.length:Int)-1).toNat=p.2.length-1:=by omega
  have hm:p.2.getD (p.2.length-1) 0∈p.2:=by rw[←hi];exact ip p.2 0 (by omega) (by omega)
  have:=a1d.1 hpre _ hm;rw[hi]
  grind[cnd,cg,al,inR]
theorem yj:bt Tryz.prog 66 jx:=cf (Φ:=lkp []) aq bj (by kernel_rfl) (fn:=Tryz.f66) (c:=bf Tryz.f66) (by kernel_rfl) (by kernel_rfl) (by kernel_rfl) jx rfl .n (cu [(3,13)]) (by kernel_rfl) (by kernel_rfl) (by kernel_rfl) (by decide) (fun x K=>aer x.1 x.2.1 K) (fun _ _=>by kernel_rfl) (fun x h1 h2=>av8 x.1 x.2.1 h1 h2)
def j8:Ct:=⟨[SchemaT,PathT],[true,true],fun x=>[x.1.2.1.length<=x.1.2.2.1.length,inK .i64 (x.1.1-1)],[(false,(.fz .bool))],fun x=>((aw x.1 x.2.1).2,()),false,none⟩
def arh:Ann:=(.s .n (.s .n (.s .n (.s (.s .n (.l [(5,(.d (.int .i64))),(6,(.d (.int .i64)))] [] [2,3] .n)) .n))))
def arz:FuncId->Option Ct:=lkp [(64,mw),(65,jk)]
def ab4(s:ac)(p:ab)(K:Bool×Unit->Prop):Prop:=((inK .i64 (s.1-1))/\(cnd (((!(inR p.1 0 (s.1-1)))||(decide (6<(p.2.length:Int))))||(!(bm p.2 (s.2.1.length:Int)))) (K (false,())) (bi (S:=bpu) (fun s1=>(fun next=>((inK .i64 s1.1.1)->((inK .i64 s1.1.2.1)->(cnd (decide (s1.1.2.1<(p.2.length:Int))) ((0<=s1.1.2.1)/\((s1.1.2.1<(p.2.length:Int))/\((0<=(p.2.getD s1.1.2.1.toNat 0))/\(((p.2.getD s1.1.2.1.toNat 0)<(s.2.1.length:Int))/\(cnd ((s.2.1.getD (Int.toNat (p.2.getD s1.1.2.1.toNat 0)) 0) != s1.1.1) (K (false,())) ((0<=s1.1.2.1)/\((s1.1.2.1<(p.2.length:Int))/\((0<=(p.2.getD s1.1.2.1.toNat 0))/\(((p.2.getD s1.1.2.1.toNat 0)<(s.2.2.1.length:Int))/\((inK .i64 (s1.1.2.1+1))/\(next (((s.2.2.1.getD (Int.toNat (p.2.getD s1.1.2.1.toNat 0)) 0),((s1.1.2.1+1),())),())))))))))))) (K (true,()))))))) ((p.1,(0,())),()))))
theorem auh(s:ac)(p:ab)(hok:ae (okL j8.args (s,p,())))(hpre:ae (j8.pre (s,p,()))):ab4 s p (fun r=>r=j8.res (s,p,())):=by
 simp only[j8,okL,T.oks,T.ok,ap,ae,a0e,a0c,a0i]at hok hpre
 try dsimp only[T.den]at hok hpre
 unfold ab4;simp only[j8,aw]
 have key:∀(nd:Int) (l:List Int),(be s nd l).2=true->bm l s.2.1.length=true:=by
  intro nd l
  induction l generalizing nd with
  |nil=>intro _;rfl
  |cons e l ih=>
   simp only[be];split
   ·rename_i h;intro hf;simp only[bm,a3m];have:=ih _ hf;simp only[bm]at this;rw[this,h.1];rfl
   ·intro h;cases h
 refine⟨hpre.2,a8 (fun hc=>?_) (fun hc=>?_)⟩
 ·have:=key p.1 p.2
  grind[cnd,cg,al]
 ·simp only[inR,a18,a2d,a0a,a04,a2j]at hc;rw[d0 ⟨by simp[inR,hc.1.1],by omega⟩];refine bq (fun (s1:bpu)=>0<=s1.1.2.1/\s1.1.2.1<=p.2.length/\be s p.1 p.2=be s s1.1.1 (p.2.drop s1.1.2.1.toNat)) (fun (s1:bpu)=>(p.2.length-s1.1.2.1).toNat) ?_ (by simp);rintro⟨⟨nd,i,_⟩,_⟩ next ⟨h0,h1,h2⟩ hn ha hin
  simp only at h0 h1 h2 hn⊢;refine ao (fun hx=>?_) (fun hx=>?_)
  ·have hm:=a1d.1 hc.2 _ (ip p.2 0 h0 hx);rw[nx p.2 0 h0 hx]at h2;simp only[be,hm,a0e]at h2;generalize p.2.getD i.toNat 0=e at *;simp only[inR,a0a,a04]at hm
   grind[cnd,cg,al]
  ·rw[qu p.2 (by omega)]at h2;simp[be,h2]
theorem aa8:bt Tryz.prog 52 j8:=cf (Φ:=arz) (ai aeg (ai yf aq)) bj (by kernel_rfl) (fn:=Tryz.f52) (c:=bf Tryz.f52) (by kernel_rfl) (by kernel_rfl) (by kernel_rfl) j8 rfl arh (cu [(7,11),(9,10)]) (by kernel_rfl) (by kernel_rfl) (by kernel_rfl) (by decide) (fun x K=>ab4 x.1 x.2.1 K) (fun _ _=>by kernel_rfl) (fun x h1 h2=>auh x.1 x.2.1 h1 h2)
theorem aif(s:ac):∀(nd:Int) (l:List Int),(be s nd l).2=true->(be s nd l).1=if l.length=0 then nd else s.2.2.1.getD (l.getD (l.length-1) 0).toNat 0
 |nd,[],_=>rfl
 |nd,e::r,h=>by
  simp only[be]at h⊢;split at h
  ·rename_i hc;rw[d0 hc];rw[aif s _ r h]
   cases r with
   |nil=>simp
   |cons e' r'=>simp
  ·cases h
theorem ald(s:ac):∀(nd:Int) (l:List Int),(be s nd l).2=true->bm l s.2.1.length=true
 |nd,[],_=>rfl
 |nd,e::r,h=>by
  simp only[be]at h;split at h
  ·rename_i hc;have:=ald s _ r h;simp only[bm,a3m]at this⊢;rw[this,hc.1];rfl
  ·cases h
theorem il{s:ac}{p:ab}(h:(aw s p).2=true):gv s p=(aw s p).1/\bm p.2 s.2.1.length=true:=by
 unfold aw at h⊢;split at h
 ·rename_i hc;rw[d0 hc];exact⟨(aif s _ _ h).symm,ald s _ _ h⟩
 ·cases h
def k8:Ct:=⟨[SchemaT],[true],fun x=>[],[(false,(.fz .bool))],fun x=>(bd x.1,()),false,none⟩
def aow:Ann:=(.s .n (.s .n (.s (.s .n (.l [(3,(.d (.int .i64)))] [] [1] .n)) .n)))
def apz:FuncId->Option Ct:=lkp [(64,mw),(65,jk),(66,jx),(52,j8)]
def aap(s:ac)(K:Bool×Unit->Prop):Prop:=(cnd (((((((!(inR s.1 0 8))||(decide (8<(s.2.1.length:Int))))||((s.2.2.1.length:Int) != (s.2.1.length:Int)))||(!(bm s.2.1 s.1)))||(!(bm s.2.2.1 s.1)))||(decide (8<(s.2.2.2.1.length:Int))))||((s.2.2.2.2.length:Int) != (s.2.2.2.1.length:Int))) (K (false,())) (bi (S:=bpq) (fun s1=>(fun next=>((inK .i64 s1.1.1)->(cnd (decide (s1.1.1<(s.2.2.2.1.length:Int))) ((0<=s1.1.1)/\((s1.1.1<(s.2.2.2.1.length:Int))/\((0<=s1.1.1)/\((s1.1.1<(s.2.2.2.2.length:Int))/\((s.2.1.length<=s.2.2.1.length)/\((inK .i64 (s.1-1))/\((((!(aw s (s.2.2.2.1.getD s1.1.1.toNat (0,[]))).2)=false)->((inK .i64 (s.1-1))/\(s.2.1.length<=s.2.2.1.length)))/\((((((!(aw s (s.2.2.2.1.getD s1.1.1.toNat (0,[]))).2)||(!(aw s (s.2.2.2.2.getD s1.1.1.toNat (0,[]))).2))||((s.2.2.2.1.getD s1.1.1.toNat (0,[])).1 != (s.2.2.2.2.getD s1.1.1.toNat (0,[])).1))=false)->((bm (s.2.2.2.1.getD s1.1.1.toNat (0,[])).2 (s.2.2.1.length:Int))=true))/\((((((!(aw s (s.2.2.2.1.getD s1.1.1.toNat (0,[]))).2)||(!(aw s (s.2.2.2.2.getD s1.1.1.toNat (0,[]))).2))||((s.2.2.2.1.getD s1.1.1.toNat (0,[])).1 != (s.2.2.2.2.getD s1.1.1.toNat (0,[])).1))=false)->((bm (s.2.2.2.2.getD s1.1.1.toNat (0,[])).2 (s.2.2.1.length:Int))=true))/\(cnd ((((!(aw s (s.2.2.2.1.getD s1.1.1.toNat (0,[]))).2)||(!(aw s (s.2.2.2.2.getD s1.1.1.toNat (0,[]))).2))||((s.2.2.2.1.getD s1.1.1.toNat (0,[])).1 != (s.2.2.2.2.getD s1.1.1.toNat (0,[])).1))||((gv s (s.2.2.2.1.getD s1.1.1.toNat (0,[]))) != (gv s (s.2.2.2.2.getD s1.1.1.toNat (0,[]))))) (K (false,())) ((inK .i64 (s1.1.1+1))/\(next (((s1.1.1+1),()),()))))))))))))) (K (true,())))))) ((0,()),())))
theorem asv(s:ac)(hok:ae (okL k8.args (s,())))(hpre:ae (k8.pre (s,()))):aap s (fun r=>r=k8.res (s,())):=by
 simp only[k8,okL,T.oks,T.ok,ap,ae,a0e,a0c,a0i]at hok hpre
 try dsimp only[T.den]at hok hpre
 unfold aap;refine a8 (fun hc=>?_) (fun hc=>?_)
 ·grind[cnd,cg,al,k8,bd]
 have he:bd s=u6 s s.2.2.2.1 s.2.2.2.2:=by grind[cnd,cg,al,bd]
 simp only[k8,he];simp only[inR,a18,a2d,a0a,a04,a2j,a1j]at hc;refine bq (fun (s1:bpq)=>0<=s1.1.1/\s1.1.1<=s.2.2.2.1.length/\u6 s s.2.2.2.1 s.2.2.2.2=u6 s (s.2.2.2.1.drop s1.1.1.toNat) (s.2.2.2.2.drop s1.1.1.toNat)) (fun (s1:bpq)=>(s.2.2.2.1.length-s1.1.1).toNat) ?_ (by simp);rintro⟨⟨i,_⟩,_⟩ next ⟨h0,h1,h2⟩ hn hin
 simp only at h0 h1 h2 hn⊢;refine ao (fun hx=>?_) (fun hx=>?_)
 ·rw[nx s.2.2.2.1 (0,[]) h0 hx,nx s.2.2.2.2 (0,[]) h0 (by omega)]at h2;simp only[u6,bda]at h2;generalize s.2.2.2.1.getD i.toNat (0,[])=p at *;generalize s.2.2.2.2.getD i.toNat (0,[])=q at *;have ep:=@il s p;have eq:=@il s q;have hl:s.2.2.1.length=s.2.1.length:=by omega
  rw[hl];refine⟨by omega,by omega,by omega,by omega,by omega,by rw[al];(try dsimp only);omega,fun _=>⟨by rw[al];(try dsimp only);omega,by omega⟩,fun hy=>?_,fun hy=>?_,a8 (fun hy=>?_) (fun hy=>?_)⟩
  ·grind[cnd,cg,al]
  ·grind[cnd,cg,al]
  ·grind[cnd,cg,al]
  ·grind[cnd,cg,al]
 ·rw[qu s.2.2.2.1 (by omega)]at h2;simp[u6,h2]
theorem aov:bt Tryz.prog 40 k8:=cf (Φ:=apz) (ai aeg (ai yf (ai yj (ai aa8 aq)))) bj (by kernel_rfl) (fn:=Tryz.f40) (c:=bf Tryz.f40) (by kernel_rfl) (by kernel_rfl) (by kernel_rfl) k8 rfl aow (cu [(6,2012),(7,23)]) (by kernel_rfl) (by kernel_rfl) (by kernel_rfl) (by decide) (fun x K=>aap x.1 K) (fun _ _=>by kernel_rfl) (fun x h1 h2=>asv x.1 h1 h2)
def ib(s:ac)(p:ab):Bool:=bd s&&(aw s p).2
theorem asa{s:ac}(h:bd s=true):0<=s.1/\s.1<=8/\s.2.2.1.length=s.2.1.length:=by simp only[bd,inR,a0a,a04]at h;exact⟨h.1.1.1.1.1.1.1.1,h.1.1.1.1.1.1.1.2,h.1.1.1.1.1.2⟩
def jc:Ct:=⟨[(.pt SchemaT),PathT],[false,true],fun x=>[],[(false,(.fz .bool))],fun x=>(ib x.1 x.2.1,()),false,none⟩
def aip:FuncId->Option Ct:=lkp [(74,fh),(45,dx)]
def u4(s:ac)(p:ab)(K:Bool×Unit->Prop):Prop:=(cnd (!(bd s)) (K (false,())) ((s.2.1.length<=s.2.2.1.length)/\((inK .i64 (s.1-1))/\(K ((aw s p).2,())))))
theorem akl(s:ac)(p:ab)(hok:ae (okL jc.args (s,p,())))(hpre:ae (jc.pre (s,p,()))):u4 s p (fun r=>r=jc.res (s,p,())):=by
 simp only[jc,okL,T.oks,T.ok,ap,ae,a0e,a0c,a0i]at hok hpre
 try dsimp only[T.den]at hok hpre
 unfold u4;have:=@asa s
 grind[cnd,cg,al,jc,ib]
theorem aaf:bt Tryz.prog 78 jc:=cf (Φ:=aip) (ai lx (ai si aq)) bj (by kernel_rfl) (fn:=Tryz.f78) (c:=bf Tryz.f78) (by kernel_rfl) (by kernel_rfl) (by kernel_rfl) jc rfl .n (cu []) (by kernel_rfl) (by kernel_rfl) (by kernel_rfl) (by decide) (fun x K=>u4 x.1 x.2.1 K) (fun _ _=>by kernel_rfl) (fun x h1 h2=>akl x.1 x.2.1 h1 h2)
def m4:Ct:=⟨[(.sl (.int .i64))],[false],fun x=>[x.1.length<=1099511627776],[(false,(.sl (.fz (.int .i64))))],fun x=>(x.1,()),false,none⟩
def aga(list:List Int)(K:(List Int)×Unit->Prop):Prop:=((e9 0 list.length 8)/\(K (list,())))
theorem azv(list:List Int)(hok:ae (okL m4.args (list,())))(hpre:ae (m4.pre (list,()))):aga list (fun r=>r=m4.res (list,())):=by
 simp only[m4,okL,T.oks,T.ok,ap,ae,a0e,a0c,a0i]at hok hpre
 try dsimp only[T.den]at hok hpre
 unfold aga;have hl:list.length<=1099511627776:=hpre;exact⟨c9 (by omega),rfl⟩
theorem sq:bt Tryz.prog 77 m4:=cf (Φ:=lkp []) aq bj (by kernel_rfl) (fn:=Tryz.f77) (c:=bf Tryz.f77) (by kernel_rfl) (by kernel_rfl) (by kernel_rfl) m4 rfl .n (cu []) (by kernel_rfl) (by kernel_rfl) (by kernel_rfl) (by decide) (fun x K=>aga x.1 K) (fun _ _=>by kernel_rfl) (fun x h1 h2=>azv x.1 h1 h2)
def fk:List Int->List Int->Int
 |[],[]=>0
 |[],_::_=>-1
 |_::_,[]=>1
 |x::a,y::b=>if x=y then fk a b else if x<y then -1 else 1
theorem aim{a b:List Int}:fk a b=0<->a=b:=by
 induction a generalizing b with
 |nil=>cases b <;> simp[fk]
 |cons x a ih=>cases b with
  |nil=>simp[fk]
  |cons y b=>
   simp only[fk,a0h];by_cases h:x=y
   ·rw[d0 h,ih];simp[h]
   ·rw[ds h];split <;> simp[h]
def gg:Ct:=⟨[(.sl (.int .i64)),(.sl (.int .i64))],[false,false],fun x=>[],[(false,(.fz (.int .i64)))],fun x=>(fk x.1 x.2.1,()),false,none⟩
def arp:Ann:=(.s .n (.s (.s .n (.l [(8,(.d (.int .i64)))] [] [0,1,7] .n)) .n))
def ab1(a:List Int)(b:List Int)(K:Int×Unit->Prop):Prop:=(bi (S:=bpq) (fun s=>(fun next=>((inK .i64 s.1.1)->(cnd (decide (s.1.1<(a.length:Int))) (cnd (s.1.1==(b.length:Int)) (K (1,())) ((0<=s.1.1)/\((s.1.1<(a.length:Int))/\((0<=s.1.1)/\((s.1.1<(b.length:Int))/\(cnd ((a.getD s.1.1.toNat 0) != (b.getD s.1.1.toNat 0)) ((0<=s.1.1)/\((s.1.1<(a.length:Int))/\((0<=s.1.1)/\((s.1.1<(b.length:Int))/\(cnd (decide ((a.getD s.1.1.toNat 0)<(b.getD s.1.1.toNat 0))) (K ((-1),())) (K (1,()))))))) ((inK .i64 (s.1.1+1))/\(next (((s.1.1+1),()),()))))))))) (cnd (decide ((a.length:Int)<(b.length:Int))) (K ((-1),())) (K (0,()))))))) ((0,()),()))
theorem aud(a:List Int)(b:List Int)(hok:ae (okL gg.args (a,b,())))(hpre:ae (gg.pre (a,b,()))):ab1 a b (fun r=>r=gg.res (a,b,())):=by
 simp only[gg,okL,T.oks,T.ok,ap,ae,a0e,a0c,a0i]at hok hpre
 try dsimp only[T.den]at hok hpre
 unfold ab1;have ha:a.length<=140737488355328:=by simp only[cg]at hok;omega
 clear hok;refine lk (n:=a.length) (fun i=>i<=b.length/\fk a b=fk (a.drop i.toNat) (b.drop i.toNat)) (by omega) ⟨by omega,by simp⟩ ?_ ?_
 ·intro i next i0 i1 hP hn hin
  obtain⟨hb,hP⟩:=hP;rw[nx a 0 i0 i1]at hP;refine ao (fun _=>a8 (fun h=>?_) (fun h=>?_)) (fun h=>absurd i1 h)
  ·rw[a0s]at h;rw[qu b (by dsimp only at h;omega)]at hP;simp only[gg,hP,fk]
  ·rw[a14]at h
   try dsimp only at h⊢
   rw[nx b 0 i0 (by omega)]at hP;simp only[fk]at hP;have hiK:inK .i64 (i+1):=by rw[al];(try dsimp only);omega
   refine⟨i0,i1,i0,by omega,a8 (fun h1=>?_) (fun h1=>?_)⟩
   ·rw[a37]at h1;rw[ds h1]at hP;refine⟨i0,i1,i0,by omega,ao (fun h2=>?_) (fun h2=>?_)⟩
    ·rw[d0 h2]at hP;simp only[gg,hP]
    ·rw[ds h2]at hP;simp only[gg,hP]
   ·rw[a1j]at h1;rw[d0 h1]at hP;exact⟨hiK,hn ⟨by omega,hP⟩⟩
 ·intro next hP hin
  obtain⟨hb,hP⟩:=hP;rw[qu a (a0r _)]at hP;refine ao (fun h=>absurd h (by dsimp only;omega)) (fun _=>ao (fun h=>?_) (fun h=>?_))
  ·rw[nx b 0 (by omega) h]at hP;simp only[gg,hP,fk]
  ·rw[qu b (by omega)]at hP;simp only[gg,hP,fk]
theorem aas:bt Tryz.prog 106 gg:=cf (Φ:=lkp []) aq bj (by kernel_rfl) (fn:=Tryz.f106) (c:=bf Tryz.f106) (by kernel_rfl) (by kernel_rfl) (by kernel_rfl) gg rfl arp (cu [(6,9),(7,9)]) (by kernel_rfl) (by kernel_rfl) (by kernel_rfl) (by decide) (fun x K=>ab1 x.1 x.2.1 K) (fun _ _=>by kernel_rfl) (fun x h1 h2=>aud x.1 x.2.1 h1 h2)
def rj:Ct:=⟨[(.sl (.int .i64)),(.sl (.int .i64))],[false,false],fun x=>[],[(false,(.fz .bool))],fun x=>(eqR (.sl (.int .i64)) x.1 x.2.1,()),false,none⟩
def ah3(a:List Int)(b:List Int)(K:Bool×Unit->Prop):Prop:=(K (((fk a b)==0),()))
theorem bae(a:List Int)(b:List Int)(hok:ae (okL rj.args (a,b,())))(hpre:ae (rj.pre (a,b,()))):ah3 a b (fun r=>r=rj.res (a,b,())):=by
 simp only[rj,okL,T.oks,T.ok,ap,ae,a0e,a0c,a0i]at hok hpre
 try dsimp only[T.den]at hok hpre
 unfold ah3;have h:=@aim a b;have h2:(fk a b==0)=eqR (.sl (.int .i64)) a b:=by rw[a36,a0s,h,fe]
 simp only[rj,h2]
theorem ayv:bt Tryz.prog 86 rj:=cf (Φ:=lkp [(106,gg)]) (ai aas aq) bj (by kernel_rfl) (fn:=Tryz.f86) (c:=bf Tryz.f86) (by kernel_rfl) (by kernel_rfl) (by kernel_rfl) rj rfl .n (cu []) (by kernel_rfl) (by kernel_rfl) (by kernel_rfl) (by decide) (fun x K=>ah3 x.1 x.2.1 K) (fun _ _=>by kernel_rfl) (fun x h1 h2=>bae x.1 x.2.1 h1 h2)
structure UfP (j:List Int):Prop where
 le:∀i:Int,0<=i->i<j.length->0<=j.getD i.toNat 0/\j.getD i.toNat 0<=i
def ahk:Nat->List Int->Int->List Int×Int
 |0,j,x=>(j,x)
 |n+1,j,x=>if j.getD x.toNat 0=x then (j,x)else ahk n (j.set x.toNat (j.getD (j.getD x.toNat 0).toNat 0)) (j.getD (j.getD x.toNat 0).toNat 0)
def cy(j:List Int)(x:Int):List Int×Int:=ahk j.length j x
def al2:Nat->List Int->Int->Int
 |0,_,x=>x
 |n+1,j,x=>if j.getD x.toNat 0=x then x else al2 n j (j.getD x.toNat 0)
def ef(j:List Int)(x:Int):Int:=al2 j.length j x
theorem bgw{j:List Int}(U:UfP j):∀(n:Nat) (x:Int),0<=x->x<j.length->x.toNat<=n->al2 (n+1) j x=al2 n j x
 |0,x,x0,x1,h=>by have:=U.le x x0 x1;simp only[al2];rw[d0 (by omega)]
 |n+1,x,x0,x1,h=>by
  have:=U.le x x0 x1;show (if j.getD x.toNat 0=x then x else al2 (n+1) j (j.getD x.toNat 0))=(if j.getD x.toNat 0=x then x else al2 n j (j.getD x.toNat 0));split
  ·rfl
  ·exact bgw U n _ this.1 (by omega) (by omega)
theorem ac7{j:List Int}(U:UfP j){x:Int}(x0:0<=x)(x1:x<j.length):ef j x=if j.getD x.toNat 0=x then x else ef j (j.getD x.toNat 0):=by
 have:=U.le x x0 x1;unfold ef;obtain⟨m,hm⟩:∃m,j.length=m+1:=⟨j.length-1,by omega⟩;rw[hm]
 conv=>lhs;rw[al2]
 split
 ·rfl
 ·rw[bgw U m _ this.1 (by omega) (by omega)]
theorem azw{j:List Int}{p:Int->Prop}(h:∀x:Int,0<=x->x<j.length->(∀y:Int,0<=y->y<x->p y)->p x){x:Int}(x0:0<=x)(x1:x<j.length):p x:=by
 have key:∀n:Nat,∀x:Int,0<=x->x<j.length->x.toNat<n->p x:=by
  intro n
  induction n with
  |zero=>intro x _ _ hx;omega
  |succ n ih=>intro x x0 x1 hx;exact h x x0 x1 fun y y0 y1=>ih y y0 (by omega) (by omega)
 exact key (x.toNat+1) x x0 x1 (by omega)
theorem awu{j:List Int}(U:UfP j){x:Int}(x0:0<=x)(x1:x<j.length):0<=ef j x/\ef j x<=x/\j.getD (ef j x).toNat 0=ef j x:=by
 refine azw (j:=j) (p:=fun x=>0<=ef j x/\ef j x<=x/\j.getD (ef j x).toNat 0=ef j x) (fun x x0 x1 ih=>?_) x0 x1;have:=U.le x x0 x1;rw[ac7 U x0 x1];split
 ·rename_i h;exact⟨x0,a0r _,h⟩
 ·rename_i h;have hp:=ih _ this.1 (by omega);exact⟨hp.1,by omega,hp.2.2⟩
theorem wh{j:List Int}(U:UfP j){x:Int}(x0:0<=x)(x1:x<j.length)(h:j.getD x.toNat 0=x):ef j x=x:=by rw[ac7 U x0 x1,d0 h]
theorem asl{j:List Int}{x y v:Int}(x0:0<=x)(x1:x<j.length)(y0:0<=y):(j.set x.toNat v).getD y.toNat 0=if y=x then v else j.getD y.toNat 0:=by
 rw[act _ _ _ _ _ (by omega)];by_cases h:y=x
 ·rw[d0 h,d0 (by rw[h])]
 ·rw[ds h,ds (by omega)]
theorem adj{j:List Int}(U:UfP j){x v:Int}(x0:0<=x)(x1:x<j.length)(v0:0<=v)(v1:v<=x):UfP (j.set x.toNat v):=by
 refine⟨fun i i0 i1=>?_⟩;rw[a1i]at i1;rw[asl x0 x1 i0];split
 ·omega
 ·exact U.le i i0 i1
theorem azj{j:List Int}(U:UfP j){x:Int}(x0:0<=x)(x1:x<j.length){y:Int}(y0:0<=y)(y1:y<j.length):ef (j.set x.toNat (j.getD (j.getD x.toNat 0).toNat 0)) y=ef j y:=by
 have hx:=U.le x x0 x1;have hp:=U.le _ hx.1 (by omega);have U':=adj U x0 x1 hp.1 (by omega);refine azw (j:=j) (p:=fun y=>ef (j.set x.toNat (j.getD (j.getD x.toNat 0).toNat 0)) y=ef j y) (fun y y0 y1 ih=>?_) y0 y1;rw[ac7 U' y0 (by rw[a1i];exact y1),asl x0 x1 y0];by_cases h:y=x
 ·subst h;simp only[a03];split
  ·rename_i hq;have:j.getD y.toNat 0=y:=by omega
   rw[wh U y0 y1 this]
  ·rename_i hq;rw[ih _ hp.1 (by omega)];rw[ac7 U y0 y1];have hne:¬j.getD y.toNat 0=y:=fun e=>hq (by rw[e,e]);rw[ds hne,ac7 U hx.1 (by omega)];split
   ·rename_i he;rw[he];exact wh U hx.1 (by omega) he
   ·rfl
 ·simp only[ds h];have hy:=U.le y y0 y1;rw[ac7 U y0 y1];split
  ·rfl
  ·exact ih _ hy.1 (by omega)
theorem bak{j:List Int}(U:UfP j):∀(n:Nat) (j:List Int) (x:Int),UfP j->0<=x->x<j.length->x.toNat<=n->ahk (n+1) j x=ahk n j x
 |0,j,x,U,x0,x1,h=>by have:=U.le x x0 x1;simp only[ahk];rw[d0 (by omega)]
 |n+1,j,x,U,x0,x1,h=>by
  have hx:=U.le x x0 x1;have hp:=U.le _ hx.1 (by omega);show (if j.getD x.toNat 0=x then (j,x)else ahk (n+1) (j.set x.toNat (j.getD (j.getD x.toNat 0).toNat 0)) (j.getD (j.getD x.toNat 0).toNat 0))=(if j.getD x.toNat 0=x then (j,x)else ahk n (j.set x.toNat (j.getD (j.getD x.toNat 0).toNat 0)) (j.getD (j.getD x.toNat 0).toNat 0));split
  ·rfl
  ·exact bak U n _ _ (adj U x0 x1 hp.1 (by omega)) hp.1 (by rw[a1i];omega) (by omega)
theorem bg5{j:List Int}(U:UfP j){x:Int}(x0:0<=x)(x1:x<j.length):cy j x=if j.getD x.toNat 0=x then (j,x)else cy (j.set x.toNat (j.getD (j.getD x.toNat 0).toNat 0)) (j.getD (j.getD x.toNat 0).toNat 0):=by
 have hx:=U.le x x0 x1;have hp:=U.le _ hx.1 (by omega);unfold cy;rw[a1i];obtain⟨m,hm⟩:∃m,j.length=m+1:=⟨j.length-1,by omega⟩;rw[hm]
 conv=>lhs;rw[ahk]
 split
 ·rfl
 ·rw[bak U m _ _ (adj U x0 x1 hp.1 (by omega)) hp.1 (by rw[a1i];omega) (by omega)]
theorem bgx:∀(n:Nat) {j:List Int},UfP j->∀{x:Int},0<=x->x<j.length->x.toNat<n->UfP (cy j x).1/\(cy j x).1.length=j.length/\(cy j x).2=ef j x/\∀y:Int,0<=y->y<j.length->ef (cy j x).1 y=ef j y
 |0,j,U,x,x0,x1,h=>by omega
 |n+1,j,U,x,x0,x1,h=>by
  have hx:=U.le x x0 x1;have hp:=U.le _ hx.1 (by omega);have U':=adj U x0 x1 hp.1 (by omega);rw[bg5 U x0 x1];split
  ·rename_i he;exact⟨U,rfl,(wh U x0 x1 he).symm,fun y _ _=>rfl⟩
  ·rename_i he;obtain⟨h1,h2,h3,h4⟩:=bgx n U' hp.1 (by rw[a1i];omega) (by omega);rw[a1i]at h2;refine⟨h1,h2,?_,fun y y0 y1=>?_⟩
   ·rw[h3,azj U x0 x1 hp.1 (by omega)];rw[ac7 U x0 x1,ds he];by_cases hq:j.getD (j.getD x.toNat 0).toNat 0=j.getD x.toNat 0
    ·rw[hq]
    ·rw[ac7 U hx.1 (by omega),ds hq]
   ·rw[h4 y y0 (by rw[a1i];exact y1),azj U x0 x1 y0 y1]
theorem aix{j:List Int}(U:UfP j){x:Int}(x0:0<=x)(x1:x<j.length):UfP (cy j x).1/\(cy j x).1.length=j.length/\(cy j x).2=ef j x/\∀y:Int,0<=y->y<j.length->ef (cy j x).1 y=ef j y:=bgx (x.toNat+1) U x0 x1 (by omega)
def jj:Wt:=⟨(.sl (.fz (.int .i64))),[(.int .i64)],[false],fun x y=>[UfP x,0<=y.1,y.1<x.length],fun x y=>(cy x y.1).1,[(false,(.fz (.int .i64)))],fun x y=>((cy x y.1).2,())⟩
def xn:Ct:=at6 jj
def alh:Ann:=(.s .n (.s (.l [(0,(.ref 1000000 [])),(1,(.d (.int .i64)))] [(1000000,(.sl (.fz (.int .i64))))] [] .n) .n))
def aea(j:List Int)(x:Int)(K:(List Int)->(Int×Unit)->Prop):Prop:=(bi (S:=(bpn×bpp)) (fun s=>(fun next=>((inK .i64 s.1.2.1)->((T.ok (.sl (.int .i64)) s.2.1)->((0<=s.1.2.1)/\((s.1.2.1<(s.2.1.length:Int))/\(cnd ((s.2.1.getD s.1.2.1.toNat 0) != s.1.2.1) ((0<=s.1.2.1)/\((s.1.2.1<(s.2.1.length:Int))/\((0<=(s.2.1.getD s.1.2.1.toNat 0))/\(((s.2.1.getD s.1.2.1.toNat 0)<(s.2.1.length:Int))/\((0<=s.1.2.1)/\((s.1.2.1<(s.2.1.length:Int))/\((0<=s.1.2.1)/\((s.1.2.1<(((List.length (List.set s.2.1 s.1.2.1.toNat (s.2.1.getD (Int.toNat (s.2.1.getD s.1.2.1.toNat 0)) 0))):Nat):Int))/\(next (((),((List.getD (List.set s.2.1 s.1.2.1.toNat (s.2.1.getD (Int.toNat (s.2.1.getD s.1.2.1.toNat 0)) 0)) s.1.2.1.toNat 0),())),((List.set s.2.1 s.1.2.1.toNat (s.2.1.getD (Int.toNat (s.2.1.getD s.1.2.1.toNat 0)) 0)),()))))))))))) (K s.2.1 (s.1.2.1,()))))))))) (((),(x,())),(j,())))
theorem aly(j:List Int)(x:Int)(hok:ae (jj.o.strip.oks j))(hok2:ae (okL jj.as (x,())))(hpre:ae (jj.pre j (x,()))):aea j x (fun z r=>z=jj.new j (x,())/\r=jj.res j (x,())):=by
 simp only[jj,O.strip,okL,T.oks,T.ok,ap,ae,a0e,a0c,a0i]at hok hok2 hpre
 try dsimp only[T.den]at hok
 try dsimp only[T.den]at hok2
 try dsimp only[T.den]at hpre
 unfold aea;obtain⟨U,x0,x1⟩:=hpre;clear hok;refine bq (fun (s:(bpn×bpp))=>UfP s.2.1/\0<=s.1.2.1/\s.1.2.1<s.2.1.length/\cy s.2.1 s.1.2.1=cy j x) (fun (s:(bpn×bpp))=>s.1.2.1.toNat) ?_ ⟨U,x0,x1,rfl⟩;rintro⟨⟨_,y,_⟩,l,_⟩ next ⟨V,y0,y1,hr⟩ hn _ _
 try dsimp only at V y0 y1 hr hn⊢
 have hy:=V.le y y0 y1;have hp:=V.le _ hy.1 (by omega);rw[bg5 V y0 y1]at hr;refine⟨y0,y1,a8 (fun hx=>?_) (fun hx=>?_)⟩
 ·have hne:¬l.getD y.toNat 0=y:=by simpa using hx
  rw[ds hne]at hr;have hs:=@asl l y y (l.getD (l.getD y.toNat 0).toNat 0) y0 y1 y0;rw[d0 rfl]at hs;refine⟨y0,y1,hy.1,by omega,y0,y1,y0,by rw[a1i];exact y1,?_⟩;rw[hs];exact hn _ ⟨adj V y0 y1 hp.1 (by omega),hp.1,by dsimp only;rw[a1i];omega,hr⟩ (by dsimp only;omega)
 ·have he:l.getD y.toNat 0=y:=by simpa using hx
  rw[d0 he]at hr;exact⟨congrArg Prod.fst hr,congrArg (fun z:List Int×Int=>(z.2,())) hr⟩
theorem abn:bt Tryz.prog 129 xn:=bdt (Φ:=lkp []) aq bj (by kernel_rfl) (fn:=Tryz.f129) (c:=bf Tryz.f129) (by kernel_rfl) (by kernel_rfl) (by kernel_rfl) jj alh (cu []) (by kernel_rfl) (by kernel_rfl) (by kernel_rfl) (by decide) (by kernel_rfl) (fun x y h1 h2 h3=>Eq.mp (by kernel_rfl) (aly x y.1 h1 h2 h3))
def bkr(j:List Int)(a b:Int):List Int:=j.set (mxR a b).toNat (mnR a b)
def ww(j:List Int)(x y:Int):List Int×Bool:=(bkr (cy (cy j x).1 y).1 (cy j x).2 (cy (cy j x).1 y).2,(cy j x).2 != (cy (cy j x).1 y).2)
theorem mm_p(a b:Int):(mxR a b=a/\mnR a b=b/\b<=a)\/(mxR a b=b/\mnR a b=a/\a<=b):=by unfold mxR mnR;split <;> split <;> omega
theorem axf{j:List Int}(U:UfP j){m n:Int}(m1:m<j.length)(n0:0<=n)(h:n<=m)(hm:j.getD m.toNat 0=m)(hn:j.getD n.toNat 0=n){y:Int}(y0:0<=y)(y1:y<j.length) :
  ef (j.set m.toNat n) y=if ef j y=m then n else ef j y:=by
 have m0:0<=m:=by omega
 have U':=adj U m0 m1 n0 h;refine azw (j:=j) (p:=fun y=>ef (j.set m.toNat n) y=if ef j y=m then n else ef j y) (fun y y0 y1 ih=>?_) y0 y1;rw[ac7 U' y0 (by rw[a1i];exact y1),asl m0 m1 y0];by_cases e:y=m
 ·subst e;simp only[a03];rw[wh U y0 y1 hm,d0 rfl];split
  ·rename_i h1;exact h1.symm
  ·rename_i h1;rw[ih n n0 (by omega),wh U n0 (by omega) hn,ds h1]
 ·simp only[ds e];have hy:=U.le y y0 y1;split
  ·rename_i h1;rw[wh U y0 y1 h1,ds e]
  ·rename_i h1;rw[ih _ hy.1 (by omega),ac7 U y0 y1,ds h1]
theorem alr{j:List Int}(U:UfP j){x y:Int}(x0:0<=x)(x1:x<j.length)(y0:0<=y)(y1:y<j.length) :
  UfP (ww j x y).1/\(ww j x y).1.length=j.length/\((∀z:Int,0<=z->z<j.length->ef (ww j x y).1 z=if ef j z=ef j x then ef j y else ef j z)\/∀z:Int,0<=z->z<j.length->ef (ww j x y).1 z=if ef j z=ef j y then ef j x else ef j z):=by
 obtain⟨a1,a2,a3,a4⟩:=aix U x0 x1;obtain⟨b1,b2,b3,b4⟩:=aix a1 y0 (by omega);have hl:(cy (cy j x).1 y).1.length=j.length:=by rw[b2,a2]
 have hr:∀z:Int,0<=z->z<j.length->ef (cy (cy j x).1 y).1 z=ef j z:=fun z z0 z1=>by rw[b4 z z0 (by omega),a4 z z0 z1]
 have hx:(cy j x).2=ef (cy (cy j x).1 y).1 x:=by rw[hr x x0 x1,a3]
 have hy:(cy (cy j x).1 y).2=ef (cy (cy j x).1 y).1 y:=by rw[hr y y0 y1,b3,a4 y y0 y1]
 have px:=awu b1 x0 (by omega);have py:=awu b1 y0 (by omega);rw[hr x x0 x1]at px;rw[hr y y0 y1]at py;unfold ww bkr;simp only;rw[hx,hy,hr x x0 x1,hr y y0 y1];generalize (cy (cy j x).1 y).1=k at *;rcases mm_p (ef j x) (ef j y)with⟨h1,h2,h3⟩|⟨h1,h2,h3⟩
 ·rw[h1,h2];refine⟨adj b1 px.1 (by omega) py.1 h3,by rw[a1i];exact hl,.inl fun z z0 z1=>?_⟩;rw[axf b1 (by omega) py.1 h3 px.2.2 py.2.2 z0 (by omega),hr z z0 z1]
 ·rw[h1,h2];refine⟨adj b1 py.1 (by omega) px.1 h3,by rw[a1i];exact hl,.inr fun z z0 z1=>?_⟩;rw[axf b1 (by omega) px.1 h3 py.2.2 px.2.2 z0 (by omega),hr z z0 z1]
def ji:Wt:=⟨(.sl (.fz (.int .i64))),[(.int .i64),(.int .i64)],[false,false],fun x y=>[UfP x,0<=y.1,y.1<x.length,0<=y.2.1,y.2.1<x.length],fun x y=>(ww x y.1 y.2.1).1,[(false,(.fz .bool))],fun x y=>((ww x y.1 y.2.1).2,())⟩
def aeb:Ct:=at6 ji
def adu(j:List Int)(x:Int)(y:Int)(K:(List Int)->(Bool×Unit)->Prop):Prop:=((UfP j)/\((0<=x)/\((x<(j.length:Int))/\((UfP (cy j x).1)/\((0<=y)/\((y<(List.length (cy j x).1:Int))/\((0<=(mxR (cy j x).2 (cy (cy j x).1 y).2))/\(((mxR (cy j x).2 (cy (cy j x).1 y).2)<(((List.length (cy (cy j x).1 y).1):Nat):Int))/\(K (List.set (cy (cy j x).1 y).1 (Int.toNat (mxR (cy j x).2 (cy (cy j x).1 y).2)) (mnR (cy j x).2 (cy (cy j x).1 y).2)) (((cy j x).2 != (cy (cy j x).1 y).2),()))))))))))
theorem al1(j:List Int)(x:Int)(y:Int)(hok:ae (ji.o.strip.oks j))(hok2:ae (okL ji.as (x,y,())))(hpre:ae (ji.pre j (x,y,()))):adu j x y (fun z r=>z=ji.new j (x,y,())/\r=ji.res j (x,y,())):=by
 simp only[ji,O.strip,okL,T.oks,T.ok,ap,ae,a0e,a0c,a0i]at hok hok2 hpre
 try dsimp only[T.den]at hok
 try dsimp only[T.den]at hok2
 try dsimp only[T.den]at hpre
 unfold adu;obtain⟨U,x0,x1,y0,y1⟩:=hpre;clear hok;obtain⟨a1,a2,a3,a4⟩:=aix U x0 x1;obtain⟨b1,b2,b3,b4⟩:=aix a1 y0 (by omega);have px:=awu U x0 x1;have py:=awu U y0 y1;rw[←a4 y y0 y1,←b3]at py;rw[←a3]at px;have hm:=mm_p (cy j x).2 (cy (cy j x).1 y).2;exact⟨U,x0,x1,a1,y0,by omega,by omega,by omega,rfl,rfl⟩
theorem ale:bt Tryz.prog 115 aeb:=bdt (Φ:=lkp [(129,xn)]) (ai abn aq) bj (by kernel_rfl) (fn:=Tryz.f115) (c:=bf Tryz.f115) (by kernel_rfl) (by kernel_rfl) (by kernel_rfl) ji .n (cu []) (by kernel_rfl) (by kernel_rfl) (by kernel_rfl) (by decide) (by kernel_rfl) (fun x y h1 h2 h3=>Eq.mp (by kernel_rfl) (al1 x y.1 y.2.1 h1 h2 h3))
def bkw(l:List (List Int)):Prop:=l.length<=1000000/\∀r∈l,r.length<=1000000
def kbR(l:List (List Int)):List Int:=l.flatMap fun r=>r.map (fun n=>IntKind.wrap .u8 n)++[255]
theorem bno{α β:Type}(f:α->β)(l:List α):(l.flatMap fun n=>[f n])=l.map f:=by
 induction l with
 |nil=>rfl
 |cons a l ih=>simp only[List.flatMap_cons,a1h,ih];rfl
def xq(l:List (List Int)):ByteArray:=af7 (kbR l)
def vn:Ct:=⟨[(.sl (.sl (.int .i64)))],[false],fun x=>[bkw x.1],[(false,(.fz .str))],fun x=>(xq x.1,()),false,none⟩
def bac:Ann:=(.s .n (.s .n (.s (.s .n (.l [(3,(.ref 800003 [])),(11,(.d (.int .i64)))] [(800003,(.sl (.fz (.int .u8))))] [9,10] (.s .n (.s .n (.s (.s .n (.s (.s .n (.l [(3,(.ref 800003 [])),(17,(.d (.int .i64)))] [(800003,(.sl (.fz (.int .u8))))] [9,10,11,15,16] .n)) .n)) .n))))) .n)))
def aks(lists:List (List Int))(K:ByteArray×Unit->Prop):Prop:=(bi (S:=(bpn×bpp)) (fun s=>(fun next=>((inK .i64 s.1.2.1)->((T.ok (.sl (.int .u8)) s.2.1)->(cnd (decide (s.1.2.1<(lists.length:Int))) ((0<=s.1.2.1)/\((s.1.2.1<(lists.length:Int))/\(bi (S:=(bpn×bpp)) (fun s1=>(fun next1=>((inK .i64 s1.1.2.1)->((T.ok (.sl (.int .u8)) s1.2.1)->(cnd (decide (s1.1.2.1<(List.length (lists.getD s.1.2.1.toNat []):Int))) ((0<=s1.1.2.1)/\((s1.1.2.1<(List.length (lists.getD s.1.2.1.toNat []):Int))/\((e9 s1.2.1.length (List.length ((IntKind.wrap .u8 (List.getD (lists.getD s.1.2.1.toNat []) s1.1.2.1.toNat 0))::[])) 1)/\((inK .i64 (s1.1.2.1+1))/\(next1 (((),((s1.1.2.1+1),())),((s1.2.1++((IntKind.wrap .u8 (List.getD (lists.getD s.1.2.1.toNat []) s1.1.2.1.toNat 0))::[])),()))))))) ((e9 s1.2.1.length (List.length (255::[])) 1)/\((inK .i64 (s.1.2.1+1))/\(next (((),((s.1.2.1+1),())),((s1.2.1++(255::[])),())))))))))) (((),(0,())),(s.2.1,()))))) (K ((af7 s.2.1),()))))))) (((),(0,())),([],())))
theorem bc6(lists:List (List Int))(hok:ae (okL vn.args (lists,())))(hpre:ae (vn.pre (lists,()))):aks lists (fun r=>r=vn.res (lists,())):=by
 simp only[vn,okL,T.oks,T.ok,ap,ae,a0e,a0c,a0i]at hok hpre
 try dsimp only[T.den]at hok hpre
 unfold aks;obtain⟨h1,h2⟩:=hpre;clear hok;refine ays lists [] (fun r=>r.map (fun n=>IntKind.wrap .u8 n)++[255]) [] 1000001 (fun r hr=>by have:=h2 r hr;simp only[a0q,a0y,a0l,a0p];omega) ?_ ?_
 ·intro i out next i0 i1 hb hn _ _
  refine ao (fun _=>?_) (fun h=>absurd i1 h);refine⟨i0,i1,?_⟩;have hl:=h2 _ (ip lists [] i0 i1);simp only[a0q,a0y,a0l,a0p,a0p]at hb
  try dsimp only at hn⊢
  generalize lists.getD i.toNat []=l at hl hb hn⊢;have hle:out.length+l.length<=4000000000000:=by omega
  refine ays l 0 (fun n=>[IntKind.wrap .u8 n]) out 1 (fun x _=>a0f _) ?_ ?_
  ·intro j acc next1 j0 j1 hb1 hn1 _ _;simp only[a0l,a0p]at hb1;exact ao (fun _=>⟨j0,j1,by simp only[e9,cg,a0l,a0p];omega,by rw[al];dsimp only;omega,hn1⟩) (fun h=>absurd j1 h)
  ·intro next1 _ _;refine ao (fun h=>absurd h (a21 _)) (fun _=>?_);rw[bno];refine⟨by simp only[e9,cg,a0q,a0y,a0l,a0p];omega,by rw[al];(try dsimp only);omega,?_⟩;rw[a06];exact hn
 ·intro next _ _
  exact ao (fun h=>absurd h (a21 _)) (fun _=>rfl)
theorem az6:bt Tryz.prog 128 vn:=cf (Φ:=lkp []) aq bj (by kernel_rfl) (fn:=Tryz.f128) (c:=bf Tryz.f128) (by kernel_rfl) (by kernel_rfl) (by kernel_rfl) vn rfl bac (cu []) (by kernel_rfl) (by kernel_rfl) (by kernel_rfl) (by decide) (fun x K=>aks x.1 K) (fun _ _=>by kernel_rfl) (fun x h1 h2=>bc6 x.1 h1 h2)
def l9:Ct:=⟨[(.int .i64),(.sl (.int .i64))],[false,false],fun x=>[x.2.1.length<=1000000],[(false,(.fz .str))],fun x=>(xq [[x.1],x.2.1],()),false,none⟩
def acl(start:Int)(edges:List Int)(K:ByteArray×Unit->Prop):Prop:=((bkw ((start::[])::(edges::[])))/\(K ((xq ((start::[])::(edges::[]))),())))
theorem aty(start:Int)(edges:List Int)(hok:ae (okL l9.args (start,edges,())))(hpre:ae (l9.pre (start,edges,()))):acl start edges (fun r=>r=l9.res (start,edges,())):=by
 simp only[l9,okL,T.oks,T.ok,ap,ae,a0e,a0c,a0i]at hok hpre
 try dsimp only[T.den]at hok hpre
 unfold acl;refine⟨⟨by simp,?_⟩,rfl⟩;intro r hr;simp only[a0u,a34,or_false]at hr;rcases hr with rfl|rfl
 ·simp
 ·exact hpre
theorem wz:bt Tryz.prog 111 l9:=cf (Φ:=lkp [(128,vn)]) (ai az6 aq) bj (by kernel_rfl) (fn:=Tryz.f111) (c:=bf Tryz.f111) (by kernel_rfl) (by kernel_rfl) (by kernel_rfl) l9 rfl .n (cu []) (by kernel_rfl) (by kernel_rfl) (by kernel_rfl) (by decide) (fun x K=>acl x.1 x.2.1 K) (fun _ _=>by kernel_rfl) (fun x h1 h2=>aty x.1 x.2.1 h1 h2)
def db(k:aj)(x:Int)(es:List Int):Int:=pp .str (.int .i64) k.1 (xq [[x],es])
def g9:Ct:=⟨[(.pt mz),(.int .i64),(.sl (.int .i64))],[false,false,false],fun x=>[x.2.2.1.length<=1000000,0<=db x.1 x.2.1 x.2.2.1,db x.1 x.2.1 x.2.2.1<x.1.2.1.length],[(false,(.fz (.int .i64)))],fun x=>(x.1.2.1.getD (db x.1 x.2.1 x.2.2.1).toNat 0,()),false,none⟩
def uo(k:aj)(start:Int)(edges:List Int)(K:Int×Unit->Prop):Prop:=((edges.length<=1000000)/\((0<=(pp T.str (.int .i64) k.1 (xq ((start::[])::(edges::[])))))/\(((pp T.str (.int .i64) k.1 (xq ((start::[])::(edges::[]))))<(k.2.1.length:Int))/\(K ((k.2.1.getD (Int.toNat (pp T.str (.int .i64) k.1 (xq ((start::[])::(edges::[]))))) 0),())))))
theorem ajl(k:aj)(start:Int)(edges:List Int)(hok:ae (okL g9.args (k,start,edges,())))(hpre:ae (g9.pre (k,start,edges,()))):uo k start edges (fun r=>r=g9.res (k,start,edges,())):=by
 simp only[g9,okL,T.oks,T.ok,ap,ae,a0e,a0c,a0i]at hok hpre
 try dsimp only[T.den]at hok hpre
 unfold uo;exact⟨hpre.1,hpre.2.1,hpre.2.2,rfl⟩
theorem tu:bt Tryz.prog 95 g9:=cf (Φ:=lkp [(111,l9)]) (ai wz aq) bj (by kernel_rfl) (fn:=Tryz.f95) (c:=bf Tryz.f95) (by kernel_rfl) (by kernel_rfl) (by kernel_rfl) g9 rfl .n (cu [(1,12)]) (by kernel_rfl) (by kernel_rfl) (by kernel_rfl) (by decide) (fun x K=>uo x.1 x.2.1 x.2.2.1 K) (fun _ _=>by kernel_rfl) (fun x h1 h2=>ajl x.1 x.2.1 x.2.2.1 h1 h2)
def ff:Wc:=⟨(.pt (.sl (.fz (.int .i64)))),1,[(.sl (.int .i64)),.any,(.pt (.int .i64)),(.pt (.pt mz)),(.pt PathT)],[false,false,false,false,false],fun x y=>[UfP x,0<=y.2.2.1,y.2.2.1<x.length,y.1.length<=1000000,0<=db y.2.2.2.1 y.2.2.2.2.1.1 y.1,db y.2.2.2.1 y.2.2.2.2.1.1 y.1<x.length],fun x y=>(ww x y.2.2.1 (db y.2.2.2.1 y.2.2.2.2.1.1 y.1)).1⟩
def p8:Ct:=bix ff
def abr:FuncId->Option Ct:=lkp [(115,aeb),(111,l9)]
def ux(box:(List Int))(edges:List Int)(j:Unit)(i:Int)(k:aj)(p:ab)(K:(List Int)->Prop):Prop:=((edges.length<=1000000)/\((UfP box)/\((0<=i)/\((i<(box.length:Int))/\((0<=(pp T.str (.int .i64) k.1 (xq ((p.1::[])::(edges::[])))))/\(((pp T.str (.int .i64) k.1 (xq ((p.1::[])::(edges::[]))))<(box.length:Int))/\(K (ww box i (pp T.str (.int .i64) k.1 (xq ((p.1::[])::(edges::[]))))).1)))))))
theorem ado(box:(List Int))(edges:List Int)(j:Unit)(i:Int)(k:aj)(p:ab)(hok:ae (ff.o.strip.oks box))(hok2:ae (okL ff.as (edges,j,i,k,p,())))(hpre:ae (ff.pre box (edges,j,i,k,p,()))):ux box edges j i k p (fun z=>z=ff.new box (edges,j,i,k,p,())):=by
 simp only[ff,O.strip,okL,T.oks,T.ok,ap,ae,a0e,a0c,a0i]at hok hok2 hpre
 try dsimp only[T.den]at hok
 try dsimp only[T.den]at hok2
 try dsimp only[T.den]at hpre
 unfold ux;obtain⟨h1,h2,h3,h4,h5,h6⟩:=hpre;exact⟨h4,h1,h2,h3,h5,h6,rfl⟩
theorem pd:bt Tryz.prog 114 p8:=bke (Φ:=abr) (ai ale (ai wz aq)) bj (by kernel_rfl) (fn:=Tryz.f114) (c:=bf Tryz.f114) (by kernel_rfl) (by kernel_rfl) (by kernel_rfl) ff .n (cu [(0,11)]) (by kernel_rfl) (by kernel_rfl) (by kernel_rfl) (by kernel_rfl) (by kernel_rfl) (by decide) (by kernel_rfl) (fun x y h1 h2 h3=>Eq.mp (by kernel_rfl) (ado x y.1 y.2.1 y.2.2.1 y.2.2.2.1 y.2.2.2.2.1 h1 h2 h3))
def afv(s:ac)(p:ab)(i:Int):Int:=if i=0 then p.1 else s.2.2.1.getD (p.2.getD (i-1).toNat 0).toNat 0
def zz(s:ac)(p l:ab)(i:Int):Bool:=(afv s p i==l.1&&decide (i+l.2.length<=p.2.length))&&eqR (.sl (.int .i64)) ((p.2.take (i+l.2.length).toNat).drop i.toNat) l.2
def pw(p l r:ab)(i:Int):List Int:=p.2.take i.toNat++r.2++p.2.drop (i+l.2.length).toNat
def rp(s:ac)(p l r:ab)(i:Int)(k:aj)(p2:ab):Nat->List Int->List Int
 |0,j=>j
 |n+1,j=>if zz s p l n=true/\(pw p l r n).length<=6 then (ww (rp s p l r i k p2 n j) i (db k p2.1 (pw p l r n))).1 else rp s p l r i k p2 n j
structure VisP (s:ac) (p l r:ab) (i:Int) (k:aj) (p2:ab) (j:List Int):Prop where
 U:UfP j
 i0:0<=i
 i1:i<j.length
 lp:p.2.length<=1000000
 ll:l.2.length<=1000000
 lr:r.2.length<=1000000
 wp:bm p.2 s.2.2.1.length=true
 at_:∀n:Int,0<=n->n<=p.2.length->zz s p l n=true->(pw p l r n).length<=6->0<=db k p2.1 (pw p l r n)/\db k p2.1 (pw p l r n)<j.length
theorem bha{s:ac}{p l r:ab}{i:Int}{k:aj}{p2:ab}{j:List Int}(V:VisP s p l r i k p2 j):∀n:Nat,n<=p.2.length+1->UfP (rp s p l r i k p2 n j)/\(rp s p l r i k p2 n j).length=j.length
 |0,_=>⟨V.U,rfl⟩
 |n+1,h=>by
  obtain⟨a,b⟩:=bha V n (by omega);simp only[rp];split
  ·rename_i hc;obtain⟨q1,q2⟩:=V.at_ n (by omega) (by omega) hc.1 hc.2;obtain⟨u1,u2,_⟩:=alr a V.i0 (by rw[b];exact V.i1) q1 (by rw[b];exact q2);exact⟨u1,u2.trans b⟩
  ·exact⟨a,b⟩
def im:Wc:=⟨(.pt (.sl (.fz (.int .i64)))),4,[(.pt SchemaT),PathT,PathT,PathT,(.fn 114 (.p .any (.p (.pt (.int .i64)) (.p (.pt (.pt mz)) (.p (.pt PathT) .u)))))],[false,true,true,true,false],fun x y=>[VisP y.1 y.2.1 y.2.2.1 y.2.2.2.1 y.2.2.2.2.1.2.1 y.2.2.2.2.1.2.2.1 y.2.2.2.2.1.2.2.2.1 x],fun x y=>rp y.1 y.2.1 y.2.2.1 y.2.2.2.1 y.2.2.2.2.1.2.1 y.2.2.2.2.1.2.2.1 y.2.2.2.2.1.2.2.2.1 (y.2.1.2.length+1) x⟩
def zc:Ct:=bix im
def ahd:Ann:=(.s .n (.s .n (.s .n (.l [(4,(.fc 114 (.pr (.ad 1000000 [.de]) (.pr (.d (.pt (.int .i64))) (.pr (.d (.pt (.pt (.p (.mp .str (.int .i64)) (.p (.sl (.int .i64)) (.sl (.p (.int .i64) (.sl (.int .i64))))))))) (.pr (.d (.pt (.p (.int .i64) (.sl (.int .i64))))) .u)))))),(10,(.d (.int .i64))),(11,(.d (.int .i64)))] [(1000000,(.pt (.sl (.fz (.int .i64)))))] [0,6,7,8] (.s .n (.s (.s .n (.s (.s .n (.j [(4,(.fc 114 (.pr (.ad 1000000 [.de]) (.pr (.d (.pt (.int .i64))) (.pr (.d (.pt (.pt (.p (.mp .str (.int .i64)) (.p (.sl (.int .i64)) (.sl (.p (.int .i64) (.sl (.int .i64))))))))) (.pr (.d (.pt (.p (.int .i64) (.sl (.int .i64))))) .u))))))] [(1000000,(.pt (.sl (.fz (.int .i64)))))] [0,6,7,8,10,11] (.s (.s .n (.s .n (.j [(4,(.fc 114 (.pr (.ad 1000000 [.de]) (.pr (.d (.pt (.int .i64))) (.pr (.d (.pt (.pt (.p (.mp .str (.int .i64)) (.p (.sl (.int .i64)) (.sl (.p (.int .i64) (.sl (.int .i64))))))))) (.pr (.d (.pt (.p (.int .i64) (.sl (.int .i64))))) .u))))))] [(1000000,(.pt (.sl (.fz (.int .i64)))))] [0,6,7,8,10,11] .n))) .n))) (.s .n (.j [(4,(.fc 114 (.pr (.ad 1000000 [.de]) (.pr (.d (.pt (.int .i64))) (.pr (.d (.pt (.pt (.p (.mp .str (.int .i64)) (.p (.sl (.int .i64)) (.sl (.p (.int .i64) (.sl (.int .i64))))))))) (.pr (.d (.pt (.p (.int .i64) (.sl (.int .i64))))) .u)))))),(10,(.d (.int .i64)))] [(1000000,(.pt (.sl (.fz (.int .i64)))))] [0,6,7,8,11] .n)))) .n))))))
def ag4:FuncId->Option Ct:=lkp [(77,m4),(86,rj),(114,p8)]
def za(box:(List Int))(s:ac)(p:ab)(left:ab)(right:ab)(visit:Unit×(Int×(aj×(ab×Unit))))(K:(List Int)->Prop):Prop:=(bi (S:=(((Unit×(Int×(((List (ByteArray×Int))×bpr)×(bpm×Unit))))×(Int×(Int×Unit)))×bpp)) (fun s1=>(fun next=>((inK .i64 s1.1.1.2.1)->((T.ok (T.mp T.str (.int .i64)) s1.1.1.2.2.1.1)->((T.ok (.sl (.int .i64)) s1.1.1.2.2.1.2.1)->((T.ok (.sl PathT) s1.1.1.2.2.1.2.2)->((inK .i64 s1.1.1.2.2.2.1.1)->((T.ok (.sl (.int .i64)) s1.1.1.2.2.2.1.2)->((inK .i64 s1.1.2.1)->((inK .i64 s1.1.2.2.1)->((T.ok (.sl (.int .i64)) s1.2.1)->(cnd (decide (s1.1.2.2.1<=(p.2.length:Int))) ((inK .i64 (s1.1.2.2.1+(left.2.length:Int)))/\(((((s1.1.2.1==left.1)&&(decide ((s1.1.2.2.1+(left.2.length:Int))<=(p.2.length:Int))))=true)->((s1.1.2.2.1<=(s1.1.2.2.1+(left.2.length:Int)))/\(((s1.1.2.2.1+(left.2.length:Int))<=(p.2.length:Int))/\(0<=s1.1.2.2.1))))/\(jd (S:=(((Unit×(Int×(((List (ByteArray×Int))×bpr)×(bpm×Unit))))×Unit)×bpp)) (fun s2=>((inK .i64 s2.1.1.2.1)->((T.ok (T.mp T.str (.int .i64)) s2.1.1.2.2.1.1)->((T.ok (.sl (.int .i64)) s2.1.1.2.2.1.2.1)->((T.ok (.sl PathT) s2.1.1.2.2.1.2.2)->((inK .i64 s2.1.1.2.2.2.1.1)->((T.ok (.sl (.int .i64)) s2.1.1.2.2.2.1.2)->((T.ok (.sl (.int .i64)) s2.2.1)->(jd (S:=(((Unit×(Int×(((List (ByteArray×Int))×bpr)×(bpm×Unit))))×(Int×Unit))×bpp)) (fun s3=>((inK .i64 s3.1.1.2.1)->((T.ok (T.mp T.str (.int .i64)) s3.1.1.2.2.1.1)->((T.ok (.sl (.int .i64)) s3.1.1.2.2.1.2.1)->((T.ok (.sl PathT) s3.1.1.2.2.1.2.2)->((inK .i64 s3.1.1.2.2.2.1.1)->((T.ok (.sl (.int .i64)) s3.1.1.2.2.2.1.2)->((inK .i64 s3.1.2.1)->((T.ok (.sl (.int .i64)) s3.2.1)->((inK .i64 (s1.1.2.2.1+1))/\(next ((((),(s3.1.1.2.1,(s3.1.1.2.2.1,(s3.1.1.2.2.2.1,())))),(s3.1.2.1,((s1.1.2.2.1+1),()))),(s3.2.1,()))))))))))))) (fun k=>(cnd (decide (s1.1.2.2.1<(p.2.length:Int))) ((0<=s1.1.2.2.1)/\((s1.1.2.2.1<(p.2.length:Int))/\((0<=(p.2.getD s1.1.2.2.1.toNat 0))/\(((p.2.getD s1.1.2.2.1.toNat 0)<(s.2.2.1.length:Int))/\(k ((((),(s2.1.1.2.1,(s2.1.1.2.2.1,(s2.1.1.2.2.2.1,())))),((s.2.2.1.getD (Int.toNat (p.2.getD s1.1.2.2.1.toNat 0)) 0),())),(s2.2.1,()))))))) (k ((((),(s2.1.1.2.1,(s2.1.1.2.2.1,(s2.1.1.2.2.2.1,())))),(s1.1.2.1,())),(s2.2.1,())))))))))))))) (fun k=>(cnd (((s1.1.2.1==left.1)&&(decide ((s1.1.2.2.1+(left.2.length:Int))<=(p.2.length:Int))))&&(eqR (.sl (.int .i64)) (List.drop s1.1.2.2.1.toNat (List.take (Int.toNat (s1.1.2.2.1+(left.2.length:Int))) p.2)) left.2)) ((0<=s1.1.2.2.1)/\((s1.1.2.2.1<=(p.2.length:Int))/\(((List.length (List.take s1.1.2.2.1.toNat p.2))<=1099511627776)/\((0<=(s1.1.2.2.1+(left.2.length:Int)))/\(((s1.1.2.2.1+(left.2.length:Int))<=(p.2.length:Int))/\((e9 (List.length (List.take s1.1.2.2.1.toNat p.2)) right.2.length 8)/\((e9 (List.length ((List.take s1.1.2.2.1.toNat p.2)++right.2)) (List.length (List.drop (Int.toNat (s1.1.2.2.1+(left.2.length:Int))) p.2)) 8)/\(jd (S:=(((Unit×(Int×(((List (ByteArray×Int))×bpr)×(bpm×Unit))))×Unit)×bpp)) (fun s2=>((inK .i64 s2.1.1.2.1)->((T.ok (T.mp T.str (.int .i64)) s2.1.1.2.2.1.1)->((T.ok (.sl (.int .i64)) s2.1.1.2.2.1.2.1)->((T.ok (.sl PathT) s2.1.1.2.2.1.2.2)->((inK .i64 s2.1.1.2.2.2.1.1)->((T.ok (.sl (.int .i64)) s2.1.1.2.2.2.1.2)->((T.ok (.sl (.int .i64)) s2.2.1)->(k ((((),(s2.1.1.2.1,(s2.1.1.2.2.1,(s2.1.1.2.2.2.1,())))),()),(s2.2.1,()))))))))))) (fun k1=>(cnd (decide ((((List.length (((List.take s1.1.2.2.1.toNat p.2)++right.2)++(List.drop (Int.toNat (s1.1.2.2.1+(left.2.length:Int))) p.2))):Nat):Int)<=6)) ((UfP s1.2.1)/\((0<=s1.1.1.2.1)/\((s1.1.1.2.1<(s1.2.1.length:Int))/\(((List.length (((List.take s1.1.2.2.1.toNat p.2)++right.2)++(List.drop (Int.toNat (s1.1.2.2.1+(left.2.length:Int))) p.2)))<=1000000)/\((0<=(db s1.1.1.2.2.1 s1.1.1.2.2.2.1.1 (((List.take s1.1.2.2.1.toNat p.2)++right.2)++(List.drop (Int.toNat (s1.1.2.2.1+(left.2.length:Int))) p.2))))/\(((db s1.1.1.2.2.1 s1.1.1.2.2.2.1.1 (((List.take s1.1.2.2.1.toNat p.2)++right.2)++(List.drop (Int.toNat (s1.1.2.2.1+(left.2.length:Int))) p.2)))<(s1.2.1.length:Int))/\(k1 ((((),(s1.1.1.2.1,(s1.1.1.2.2.1,(s1.1.1.2.2.2.1,())))),()),((ww s1.2.1 s1.1.1.2.1 (db s1.1.1.2.2.1 s1.1.1.2.2.2.1.1 (((List.take s1.1.2.2.1.toNat p.2)++right.2)++(List.drop (Int.toNat (s1.1.2.2.1+(left.2.length:Int))) p.2)))).1,()))))))))) (k1 ((((),(s1.1.1.2.1,(s1.1.1.2.2.1,(s1.1.1.2.2.2.1,())))),()),(s1.2.1,()))))))))))))) (k ((((),(s1.1.1.2.1,(s1.1.1.2.2.1,(s1.1.1.2.2.2.1,())))),()),(s1.2.1,())))))))) (K s1.2.1))))))))))))) ((((),(visit.2.1,(visit.2.2.1,(visit.2.2.2.1,())))),(p.1,(0,()))),(box,())))
theorem aig(box:(List Int))(s:ac)(p:ab)(left:ab)(right:ab)(visit:Unit×(Int×(aj×(ab×Unit))))(hok:ae (im.o.strip.oks box))(hok2:ae (okL im.as (s,p,left,right,visit,())))(hpre:ae (im.pre box (s,p,left,right,visit,()))):za box s p left right visit (fun z=>z=im.new box (s,p,left,right,visit,())):=by
 simp only[im,O.strip,okL,T.oks,T.ok,ap,ae,a0e,a0c,a0i]at hok hok2 hpre
 try dsimp only[T.den]at hok
 try dsimp only[T.den]at hok2
 try dsimp only[T.den]at hpre
 unfold za;have V:=hpre;clear hpre hok hok2;have lp:=V.lp;have ll:=V.ll;have lr:=V.lr;refine bq (fun (q:(((Unit×(Int×(((List (ByteArray×Int))×bpr)×(bpm×Unit))))×(Int×(Int×Unit)))×bpp))=>q.1.1.2.1=visit.2.1/\q.1.1.2.2.1=visit.2.2.1/\q.1.1.2.2.2.1=visit.2.2.2.1/\(q.1.2.2.1<=p.2.length->q.1.2.1=afv s p q.1.2.2.1)/\0<=q.1.2.2.1/\q.1.2.2.1<=p.2.length+1/\q.2.1=rp s p left right visit.2.1 visit.2.2.1 visit.2.2.2.1 q.1.2.2.1.toNat box) (fun (q:(((Unit×(Int×(((List (ByteArray×Int))×bpr)×(bpm×Unit))))×(Int×(Int×Unit)))×bpp))=>(p.2.length+1-q.1.2.2.1).toNat) ?_ ⟨rfl,rfl,rfl,fun _=>rfl,a0r _,by dsimp only;omega,rfl⟩;rintro⟨⟨⟨_,vi,vk,vp,_⟩,nd,n,_⟩,J,_⟩ next ⟨e1,e2,e3,hnd,a0,a1,eJ⟩ hnx
 intros
 try dsimp only at e1 e2 e3 hnd a0 a1 eJ hnx⊢
 subst e1;subst e2;subst e3;subst eJ;obtain⟨U,lJ⟩:=bha V n.toNat (by omega);refine ao (fun hle=>?_) (fun hgt=>?_)
 ·have hnd:=hnd hle;subst hnd;have hs:rp s p left right visit.2.1 visit.2.2.1 visit.2.2.2.1 (n+1).toNat box=if zz s p left n=true/\(pw p left right n).length<=6 then (ww (rp s p left right visit.2.1 visit.2.2.1 visit.2.2.2.1 n.toNat box) visit.2.1 (db visit.2.2.1 visit.2.2.2.1.1 (pw p left right n))).1 else rp s p left right visit.2.1 visit.2.2.1 visit.2.2.2.1 n.toNat box:=by rw[show (n+1).toNat=n.toNat+1 from by omega];simp only[rp];rw[a1y a0]
  refine⟨by rw[al];(try dsimp only);omega,fun h=>?_,g8 (fun (q:(((Unit×(Int×(((List (ByteArray×Int))×bpr)×(bpm×Unit))))×Unit)×bpp))=>q.1.1.2.1=visit.2.1/\q.1.1.2.2.1=visit.2.2.1/\q.1.1.2.2.2.1=visit.2.2.2.1/\q.2.1=rp s p left right visit.2.1 visit.2.2.1 visit.2.2.2.1 (n+1).toNat box) ?_ ?_⟩
  ·rw[a0a,a04]at h;exact⟨by omega,h.2,a0⟩
  ·rintro⟨⟨⟨_,vi,vk,vp,_⟩,_⟩,J,_⟩ ⟨e1,e2,e3,eJ⟩;intros
   try dsimp only at e1 e2 e3 eJ⊢
   subst e1;subst e2;subst e3;subst eJ;refine g8 (fun (q:(((Unit×(Int×(((List (ByteArray×Int))×bpr)×(bpm×Unit))))×(Int×Unit))×bpp))=>q.1.1.2.1=visit.2.1/\q.1.1.2.2.1=visit.2.2.1/\q.1.1.2.2.2.1=visit.2.2.2.1/\(n+1<=p.2.length->q.1.2.1=afv s p (n+1))/\q.2.1=rp s p left right visit.2.1 visit.2.2.1 visit.2.2.2.1 (n+1).toNat box) ?_ ?_
   ·rintro⟨⟨⟨_,vi,vk,vp,_⟩,nd,_⟩,J,_⟩ ⟨e1,e2,e3,e4,eJ⟩;intros
    try dsimp only at e1 e2 e3 e4 eJ⊢
    exact⟨by rw[al];(try dsimp only);omega,hnx _ ⟨e1,e2,e3,e4,by dsimp only;omega,by dsimp only;omega,eJ⟩ (by dsimp only;omega)⟩
   ·intro k3 hk3;refine ao (fun hlt=>?_) (fun h=>hk3 _ ⟨rfl,rfl,rfl,fun h'=>absurd h' (by omega),rfl⟩);obtain⟨w0,w1⟩:=kv.1 V.wp n a0 hlt;refine⟨a0,hlt,w0,w1,hk3 _ ⟨rfl,rfl,rfl,fun _=>?_,rfl⟩⟩;unfold afv;rw[ds (by omega),show n+1-1=n from by omega]
  ·intro kk hk;refine a8 (fun hb=>?_) (fun hb=>?_)
   ·have hb0:=hb;rw[a0a,a0a,a04]at hb;have hl1:(p.2.take n.toNat).length<=1000000:=by rw[a1c];omega
    refine⟨a0,hle,by omega,by omega,hb.1.2,c9 (by omega),c9 (by rw[a0q,a1n];omega),g8 (fun (q:(((Unit×(Int×(((List (ByteArray×Int))×bpr)×(bpm×Unit))))×Unit)×bpp))=>q.1.1.2.1=visit.2.1/\q.1.1.2.2.1=visit.2.2.1/\q.1.1.2.2.2.1=visit.2.2.2.1/\q.2.1=rp s p left right visit.2.1 visit.2.2.1 visit.2.2.2.1 (n+1).toNat box) ?_ ?_⟩
    ·rintro⟨⟨⟨_,vi,vk,vp,_⟩,_⟩,J,_⟩ ⟨e1,e2,e3,eJ⟩;intros
     try dsimp only at e1 e2 e3 eJ⊢
     exact hk _ ⟨e1,e2,e3,eJ⟩
    ·intro k4 hk4;refine ao (fun h6=>?_) (fun h6=>?_)
     ·have h6':(pw p left right n).length<=6:=Int.ofNat_le.1 h6;obtain⟨q1,q2⟩:=V.at_ n a0 hle hb0 h6';rw[d0 ⟨hb0,h6'⟩]at hs;exact⟨U,V.i0,by rw[lJ];exact V.i1,a1a h6' (by decide),q1,by rw[lJ];exact q2,hk4 _ ⟨rfl,rfl,rfl,hs.symm⟩⟩
     ·have h6':¬(pw p left right n).length<=6:=fun h=>h6 (Int.ofNat_le.2 h);rw[ds (fun h=>h6' h.2)]at hs;exact hk4 _ ⟨rfl,rfl,rfl,hs.symm⟩
   ·have hb':¬zz s p left n=true:=fun h=>by unfold zz at h;rw[hb]at h;cases h
    rw[ds (fun h=>hb' h.1)]at hs;exact hk _ ⟨rfl,rfl,rfl,hs.symm⟩
 ·have en:n=p.2.length+1:=by omega
  subst en;show rp _ _ _ _ _ _ _ _ _=rp _ _ _ _ _ _ _ _ _;rfl
theorem yq:bt Tryz.prog 113 zc:=bke (Φ:=ag4) (ai sq (ai ayv (ai pd aq))) bj (by kernel_rfl) (fn:=Tryz.f113) (c:=bf Tryz.f113) (by kernel_rfl) (by kernel_rfl) (by kernel_rfl) im ahd (cu [(6,19),(7,2011),(11,9)]) (by kernel_rfl) (by kernel_rfl) (by kernel_rfl) (by kernel_rfl) (by kernel_rfl) (by decide) (by kernel_rfl) (fun x y h1 h2 h3=>Eq.mp (by kernel_rfl) (aig x y.1 y.2.1 y.2.2.1 y.2.2.2.1 y.2.2.2.2.1 h1 h2 h3))
def uh:List Int->List Int->Bool
 |_,[]=>false
 |[],_::_=>true
 |x::a,y::b=>if x=y then uh a b else decide (x<y)
def ma:Ct:=⟨[(.sl (.int .i64)),(.sl (.int .i64))],[false,false],fun x=>[],[(false,(.fz .bool))],fun x=>(uh x.1 x.2.1,()),false,none⟩
def aq0:Ann:=(.s .n (.s (.s .n (.l [(5,(.d (.int .i64)))] [] [0,1] .n)) .n))
def aby(a:List Int)(b:List Int)(K:Bool×Unit->Prop):Prop:=(bi (S:=bpq) (fun s=>(fun next=>((inK .i64 s.1.1)->(cnd ((decide (s.1.1<(a.length:Int)))&&(decide (s.1.1<(b.length:Int)))) ((0<=s.1.1)/\((s.1.1<(a.length:Int))/\((0<=s.1.1)/\((s.1.1<(b.length:Int))/\(cnd ((a.getD s.1.1.toNat 0) != (b.getD s.1.1.toNat 0)) ((0<=s.1.1)/\((s.1.1<(a.length:Int))/\((0<=s.1.1)/\((s.1.1<(b.length:Int))/\(K ((decide ((a.getD s.1.1.toNat 0)<(b.getD s.1.1.toNat 0))),())))))) ((inK .i64 (s.1.1+1))/\(next (((s.1.1+1),()),())))))))) (K ((decide ((a.length:Int)<(b.length:Int))),())))))) ((0,()),()))
theorem atz(a:List Int)(b:List Int)(hok:ae (okL ma.args (a,b,())))(hpre:ae (ma.pre (a,b,()))):aby a b (fun r=>r=ma.res (a,b,())):=by
 simp only[ma,okL,T.oks,T.ok,ap,ae,a0e,a0c,a0i]at hok hpre
 try dsimp only[T.den]at hok hpre
 unfold aby;have h1:a.length<=140737488355328:=by simp only[cg]at hok;omega
 clear hok hpre;refine bq (fun (s:bpq)=>0<=s.1.1/\s.1.1<=a.length/\s.1.1<=b.length/\uh a b=uh (a.drop s.1.1.toNat) (b.drop s.1.1.toNat)) (fun (s:bpq)=>(a.length-s.1.1).toNat) ?_ ⟨by simp,by simp,by simp,by simp⟩;rintro⟨⟨i,_⟩,_⟩ next ⟨h0,h2,h3,h4⟩ hn _
 try dsimp only at h0 h2 h3 h4 hn⊢
 refine a8 (fun hc=>?_) (fun hc=>?_)
 ·simp only[a0a,a04]at hc;rw[nx a 0 h0 hc.1,nx b 0 h0 hc.2,uh]at h4;refine⟨h0,hc.1,h0,hc.2,a8 (fun hd=>⟨h0,hc.1,h0,hc.2,?_⟩) (fun hd=>⟨by rw[al];(try dsimp only);omega,?_⟩)⟩
  ·rw[ds (by simpa using hd)]at h4;simp only[ma,h4]
  ·rw[d0 (by simpa using hd)]at h4;exact hn _ ⟨by dsimp only;omega,by dsimp only;omega,by dsimp only;omega,h4⟩ (by dsimp only;omega)
 ·simp only[Bool.and_eq_false_iff,a2j]at hc;simp only[ma,h4];by_cases hb:i<b.length
  ·have ha:¬i<a.length:=by rcases hc with h|h <;> omega
   rw[qu a (by omega),nx b 0 h0 hb,uh,decide_eq_true (by omega:(a.length:Int)<b.length)]
  ·rw[qu b (by omega),decide_eq_false (by omega:¬(a.length:Int)<b.length)];cases a.drop i.toNat <;> rfl
theorem asp:bt Tryz.prog 107 ma:=cf (Φ:=lkp []) aq bj (by kernel_rfl) (fn:=Tryz.f107) (c:=bf Tryz.f107) (by kernel_rfl) (by kernel_rfl) (by kernel_rfl) ma rfl aq0 (cu [(4,8),(5,8)]) (by kernel_rfl) (by kernel_rfl) (by kernel_rfl) (by decide) (fun x K=>aby x.1 x.2.1 K) (fun _ _=>by kernel_rfl) (fun x h1 h2=>atz x.1 x.2.1 h1 h2)
def t8(s:ac)(p q:ab):Bool:=uh (p.1::gv s p::(p.2.length:Int)::p.2) (q.1::gv s q::(q.2.length:Int)::q.2)
def pc:Ct:=⟨[SchemaT,PathT,PathT],[true,true,true],fun x=>[bm x.2.1.2 x.1.2.2.1.length=true,bm x.2.2.1.2 x.1.2.2.1.length=true,x.2.1.2.length<=1000000,x.2.2.1.2.length<=1000000],[(false,(.fz .bool))],fun x=>(t8 x.1 x.2.1 x.2.2.1,()),false,none⟩
def aqs:FuncId->Option Ct:=lkp [(107,ma),(66,jx)]
def acv(s:ac)(p:ab)(q:ab)(K:Bool×Unit->Prop):Prop:=(((bm p.2 (s.2.2.1.length:Int))=true)/\((e9 (List.length (p.1::((gv s p)::((p.2.length:Int)::[])))) p.2.length 8)/\(((bm q.2 (s.2.2.1.length:Int))=true)/\((e9 (List.length (q.1::((gv s q)::((q.2.length:Int)::[])))) q.2.length 8)/\(K ((uh ((p.1::((gv s p)::((p.2.length:Int)::[])))++p.2) ((q.1::((gv s q)::((q.2.length:Int)::[])))++q.2)),()))))))
theorem atv(s:ac)(p:ab)(q:ab)(hok:ae (okL pc.args (s,p,q,())))(hpre:ae (pc.pre (s,p,q,()))):acv s p q (fun r=>r=pc.res (s,p,q,())):=by
 simp only[pc,okL,T.oks,T.ok,ap,ae,a0e,a0c,a0i]at hok hpre
 try dsimp only[T.den]at hok hpre
 unfold acv;obtain⟨h1,h2,h3,h4⟩:=hpre;exact⟨h1,c9 (by simp only[a0l,a0p];omega),h2,c9 (by simp only[a0l,a0p];omega),rfl⟩
theorem ash:bt Tryz.prog 87 pc:=cf (Φ:=aqs) (ai asp (ai yj aq)) bj (by kernel_rfl) (fn:=Tryz.f87) (c:=bf Tryz.f87) (by kernel_rfl) (by kernel_rfl) (by kernel_rfl) pc rfl .n (cu [(1,511),(2,511)]) (by kernel_rfl) (by kernel_rfl) (by kernel_rfl) (by decide) (fun x K=>acv x.1 x.2.1 x.2.2.1 K) (fun _ _=>by kernel_rfl) (fun x h1 h2=>atv x.1 x.2.1 x.2.2.1 h1 h2)
def iq(s:ac)(p:ab)(n:Nat):List ab:=((dv n fun e=>e).filter fun e=>s.2.1.getD e.toNat 0==gv s p).map fun e=>(p.1,p.2++[e])
def gf(s:ac):Nat->Nat->List ab->List ab×Bool
 |0,_,l=>(l,true)
 |u+1,k,l=>if k<l.length then (if (l.getD k (0,[])).2.length=6 then gf s u (k+1) l else if 400<(l++iq s (l.getD k (0,[])) s.2.1.length).length then ([],false)else gf s u (k+1) (l++iq s (l.getD k (0,[])) s.2.1.length))else (l,true)
def d6(n:Int):List ab:=dv n.toNat fun x=>(x,[])
def tm(lt:ab->ab->Bool)(x:ab):List ab->List ab
 |[]=>[x]
 |y::r=>if lt x y then y::tm lt x r else x::y::r
def abb(lt:ab->ab->Bool)(l:List ab):List ab:=l.foldl (fun a x=>tm lt x a) []
def wv(lt:ab->ab->Bool)(l:List ab):List ab:=(abb lt l).reverse
def cd(s:ac):List ab×Bool:=if (gf s 402 0 (d6 s.1)).2=true then (wv (t8 s) (gf s 402 0 (d6 s.1)).1,true)else ([],false)
theorem awq{s:ac}{p:ab}{e:Int}(h:0<=e):iq s p (e+1).toNat=iq s p e.toNat++(if (s.2.1.getD e.toNat 0==gv s p)=true then [(p.1,p.2++[e])]else []):=by unfold iq;rw[uv h,List.filter_append,a28];split <;> rename_i h1 <;> simp only[List.filter_cons,h1,a03,if_false,List.filter_nil,a1h,a2i,a01]
theorem bmc{s:ac}{p:ab}{n:Nat}:(iq s p n).length<=n:=by unfold iq;rw[a0y];exact a1a (List.length_filter_le _ _) (Nat.le_of_eq (bh n))
def atl(s:ac)(p:ab):Prop:=p.2.length<=6/\bm p.2 s.2.2.1.length=true
theorem bmy{s:ac}{p q:ab}(hl:s.2.2.1.length=s.2.1.length)(hp:atl s p)(h6:¬p.2.length=6){n:Nat}(hn:n<=s.2.1.length)(h:q∈iq s p n):atl s q:=by unfold iq at h;obtain⟨e,he,rfl⟩:=a2c.1 h;obtain⟨he,_⟩:=a38.1 he;obtain⟨_,h0,h1,rfl⟩:=pj.1 he;refine⟨by have:=hp.1;rw[a0q];simp only[a0l,a0p];omega,?_⟩;have h2:=hp.2;unfold bm at h2⊢;rw[a4o,h2,hl];simp only[a3m,List.all_nil,a0j,a1x,inR,a0a,a04];omega
theorem bbo{lt:ab->ab->Bool}{x:ab}:∀l:List ab,(tm lt x l).length=l.length+1
 |[]=>rfl
 |y::r=>by unfold tm;split <;> simp only[a0l,bbo r]
theorem bm8{lt:ab->ab->Bool}{l:List ab}{i:Int}(h0:0<=i)(h1:i<l.length):abb lt (l.take (i+1).toNat)=tm lt (l.getD i.toNat (0,[])) (abb lt (l.take i.toNat)):=by unfold abb;rw[mo l (0,[]) h0 h1,a3c];rfl
theorem az4{lt:ab->ab->Bool}:∀(l a:List ab),(l.foldl (fun a x=>tm lt x a) a).length=a.length+l.length
 |[],a=>rfl
 |x::l,a=>by rw[a12,az4 l,bbo,a0l];omega
theorem axs{lt:ab->ab->Bool}(l:List ab):(abb lt l).length=l.length:=by unfold abb;rw[az4];exact a1z _
theorem as9{lt:ab->ab->Bool}{x z:ab}:∀l:List ab,z∈tm lt x l->z=x\/z∈l
 |[],h=>.inl (a0x.1 h)
 |y::r,h=>by
  unfold tm at h;split at h
  ·rcases a0u.1 h with h|h
   ·exact .inr (h▸a3a ..)
   ·rcases as9 r h with h|h
    ·exact .inl h
    ·exact .inr (a2y _ h)
  ·rcases a0u.1 h with h|h
   ·exact .inl h
   ·exact .inr h
theorem axw{lt:ab->ab->Bool}{z:ab}:∀(l a:List ab),z∈l.foldl (fun a x=>tm lt x a) a->z∈a\/z∈l
 |[],a,h=>.inl h
 |x::l,a,h=>by
  rcases axw l _ h with h|h
  ·rcases as9 a h with h|h
   ·exact .inr (h▸a3a ..)
   ·exact .inl h
  ·exact .inr (a2y _ h)
def ah2(lt:ab->ab->Bool)(l:List ab)(i:Int):List ab:=(abb lt (l.take i.toNat)).reverse++l.drop i.toNat
theorem bl9{lt:ab->ab->Bool}(l:List ab)(i:Int):(ah2 lt l i).length=l.length:=by unfold ah2;rw[a0q,a43,axs,a1c,a1n];omega
theorem boh{lt:ab->ab->Bool}(l:List ab):ah2 lt l 1=l:=by cases l <;> rfl
theorem bow{lt:ab->ab->Bool}{l:List ab}{i:Int}(h:(l.length:Int)<=i):ah2 lt l i=wv lt l:=by unfold ah2 wv;rw[qw l h,a4l (by omega),a2l]
theorem bbi{α:Type}{d x:α}{t:List α}:∀p:List α,(p++x::t).getD p.length d=x
 |[]=>rfl
 |_::p=>by simp
theorem bir{α:Type}{d x y:α}{t:List α}:∀p:List α,(p++y::x::t).getD (p.length+1) d=x
 |[]=>rfl
 |_::p=>by simp
theorem bjl{α:Type}{x y:α}{t:List α}:∀p:List α,((p++y::x::t).set (p.length+1) y).set p.length x=p++x::y::t
 |[]=>rfl
 |a::p=>by simp
theorem atp{α:Type}{l m:List α}{d:α}{k:Nat}(h:k<l.length):(l++m).getD k d=l.getD k d:=by rw[a0o,a0o,a1e h]
def ku:Ct:=⟨[SchemaT],[true],fun x=>[0<=x.1.1,x.1.1<=400,x.1.2.1.length<=1000000,x.1.2.2.1.length=x.1.2.1.length],[(false,(.fz (.sl PathT))),(false,(.fz .bool))],fun x=>((cd x.1).1,(cd x.1).2,()),true,none⟩
def apg:Ann:=(.s .n (.j [(1,(.ad 1 [.de])),(4,(.ref 800004 []))] [(1,(.pt (.fz (.p (.int .i64) (.p (.sl (.int .i64)) (.p (.sl (.int .i64)) (.p (.sl (.p (.int .i64) (.sl (.int .i64)))) (.sl (.p (.int .i64) (.sl (.int .i64))))))))))),(800004,(.sl (.fz (.p (.int .i64) (.sl (.int .i64))))))] [] (.s .n (.s (.s .n (.l [(4,(.ref 800004 [])),(5,(.d (.int .i64)))] [(800004,(.sl (.fz (.p (.int .i64) (.sl (.int .i64))))))] [1] .n)) (.s (.s .n (.l [(4,(.ref 800004 [])),(6,(.d (.int .i64)))] [(800004,(.sl (.fz (.p (.int .i64) (.sl (.int .i64))))))] [1] (.s .n (.s (.j [(4,(.ref 800004 []))] [(800004,(.sl (.fz (.p (.int .i64) (.sl (.int .i64))))))] [1,6] (.s .n (.s (.s .n (.l [(4,(.ref 800004 [])),(7,(.d (.int .i64)))] [(800004,(.sl (.fz (.p (.int .i64) (.sl (.int .i64))))))] [1,6] (.s .n (.s (.s .n (.j [(4,(.ref 800004 []))] [(800004,(.sl (.fz (.p (.int .i64) (.sl (.int .i64))))))] [1,6,7] .n)) .n)))) .n))) .n)))) (.s (.s .n (.l [(4,(.ref 800004 [])),(8,(.d (.int .i64)))] [(800004,(.sl (.fz (.p (.int .i64) (.sl (.int .i64))))))] [1] (.s .n (.s (.s .n (.l [(4,(.ref 800004 [])),(9,(.d (.int .i64)))] [(800004,(.sl (.fz (.p (.int .i64) (.sl (.int .i64))))))] [1,8] .n)) .n)))) .n))))))
def ap1:FuncId->Option Ct:=lkp [(58,m7),(66,jx),(87,pc)]
def aa3(s:ac)(K:(List ab)×Bool×Unit->Prop):Prop:=(jd (S:=bp4) (fun s1=>((inK .i64 s1.2.1.1)->((T.ok (.sl (.int .i64)) s1.2.1.2.1)->((T.ok (.sl (.int .i64)) s1.2.1.2.2.1)->((T.ok (.sl PathT) s1.2.1.2.2.2.1)->((T.ok (.sl PathT) s1.2.1.2.2.2.2)->((T.ok (.sl PathT) s1.2.2.1)->(bi (S:=bpo) (fun s2=>(fun next=>((inK .i64 s2.1.2.1)->((T.ok (.sl PathT) s2.2.1)->(cnd (decide (s2.1.2.1<s1.2.1.1)) ((e9 s2.2.1.length (List.length ((s2.1.2.1,[])::([]:List bpm))) 32)/\((inK .i64 (s2.1.2.1+1))/\(next (((),((s2.1.2.1+1),())),((s2.2.1++((s2.1.2.1,[])::([]:List bpm))),()))))) (bi (S:=bpo) (fun s3=>(fun next1=>((inK .i64 s3.1.2.1)->((T.ok (.sl PathT) s3.2.1)->(cnd (decide (s3.1.2.1<(s3.2.1.length:Int))) (jd (S:=bpt) (fun s4=>((T.ok (.sl PathT) s4.2.1)->((inK .i64 (s3.1.2.1+1))/\(next1 (((),((s3.1.2.1+1),())),(s4.2.1,())))))) (fun k=>((0<=s3.1.2.1)/\((s3.1.2.1<(s3.2.1.length:Int))/\(cnd ((((List.length (s3.2.1.getD s3.1.2.1.toNat (0,[])).2):Nat):Int)==6) (k (((),()),(s3.2.1,()))) (bi (S:=bpo) (fun s4=>(fun next2=>((inK .i64 s4.1.2.1)->((T.ok (.sl PathT) s4.2.1)->(cnd (decide (s4.1.2.1<(s1.2.1.2.1.length:Int))) ((0<=s4.1.2.1)/\((s4.1.2.1<(s1.2.1.2.1.length:Int))/\((0<=s3.1.2.1)/\((s3.1.2.1<(s4.2.1.length:Int))/\(((bm (s4.2.1.getD s3.1.2.1.toNat (0,[])).2 (s1.2.1.2.2.1.length:Int))=true)/\(jd (S:=bpt) (fun s5=>((T.ok (.sl PathT) s5.2.1)->((inK .i64 (s4.1.2.1+1))/\(next2 (((),((s4.1.2.1+1),())),(s5.2.1,())))))) (fun k1=>(cnd ((s1.2.1.2.1.getD s4.1.2.1.toNat 0)==(gv s1.2.1 (s4.2.1.getD s3.1.2.1.toNat (0,[])))) ((0<=s3.1.2.1)/\((s3.1.2.1<(s4.2.1.length:Int))/\((0<=s3.1.2.1)/\((s3.1.2.1<(s4.2.1.length:Int))/\(((List.length (s4.2.1.getD s3.1.2.1.toNat (0,[])).2)<=1099511627776)/\((e9 (List.length (s4.2.1.getD s3.1.2.1.toNat (0,[])).2) (List.length (s4.1.2.1::[])) 8)/\((e9 s4.2.1.length (List.length (((s4.2.1.getD s3.1.2.1.toNat (0,[])).1,((s4.2.1.getD s3.1.2.1.toNat (0,[])).2++(s4.1.2.1::[])))::([]:List bpm))) 32)/\(k1 (((),()),((s4.2.1++(((s4.2.1.getD s3.1.2.1.toNat (0,[])).1,((s4.2.1.getD s3.1.2.1.toNat (0,[])).2++(s4.1.2.1::[])))::([]:List bpm))),())))))))))) (k1 (((),()),(s4.2.1,()))))))))))) (cnd (decide (400<(s4.2.1.length:Int))) (K (([]:List bpm),(false,()))) (k (((),()),(s4.2.1,()))))))))) (((),(0,())),(s3.2.1,())))))))) (bi (S:=bpo) (fun s4=>(fun next2=>((inK .i64 s4.1.2.1)->((T.ok (.sl PathT) s4.2.1)->(cnd (decide (s4.1.2.1<(s4.2.1.length:Int))) (bi (S:=bpo) (fun s5=>(fun next3=>((inK .i64 s5.1.2.1)->((T.ok (.sl PathT) s5.2.1)->((((decide (0<s5.1.2.1))=true)->((s5.1.2.1<(s5.2.1.length:Int))/\(0<=s5.1.2.1)))/\((((decide (0<s5.1.2.1))=true)->(inK .i64 (s5.1.2.1-1)))/\((((decide (0<s5.1.2.1))=true)->(((s5.1.2.1-1)<(s5.2.1.length:Int))/\(0<=(s5.1.2.1-1))))/\((((decide (0<s5.1.2.1))=true)->(((bm (s5.2.1.getD (Int.toNat (s5.1.2.1-1)) (0,[])).2 (s1.2.1.2.2.1.length:Int))=true)/\(((List.length (s5.2.1.getD s5.1.2.1.toNat (0,[])).2)<=1000000)/\(((List.length (s5.2.1.getD (Int.toNat (s5.1.2.1-1)) (0,[])).2)<=1000000)/\((bm (s5.2.1.getD s5.1.2.1.toNat (0,[])).2 (s1.2.1.2.2.1.length:Int))=true)))))/\(cnd ((decide (0<s5.1.2.1))&&(t8 s1.2.1 (s5.2.1.getD s5.1.2.1.toNat (0,[])) (s5.2.1.getD (Int.toNat (s5.1.2.1-1)) (0,[])))) ((0<=s5.1.2.1)/\((s5.1.2.1<(s5.2.1.length:Int))/\((inK .i64 (s5.1.2.1-1))/\((0<=(s5.1.2.1-1))/\(((s5.1.2.1-1)<(s5.2.1.length:Int))/\((0<=s5.1.2.1)/\((s5.1.2.1<(s5.2.1.length:Int))/\((inK .i64 (s5.1.2.1-1))/\((0<=(s5.1.2.1-1))/\(((s5.1.2.1-1)<(((List.length (List.set s5.2.1 s5.1.2.1.toNat (s5.2.1.getD (Int.toNat (s5.1.2.1-1)) (0,[])))):Nat):Int))/\((inK .i64 (s5.1.2.1-1))/\(next3 (((),((s5.1.2.1-1),())),((List.set (List.set s5.2.1 s5.1.2.1.toNat (s5.2.1.getD (Int.toNat (s5.1.2.1-1)) (0,[]))) (Int.toNat (s5.1.2.1-1)) (s5.2.1.getD s5.1.2.1.toNat (0,[]))),())))))))))))))) ((inK .i64 (s4.1.2.1+1))/\(next2 (((),((s4.1.2.1+1),())),(s5.2.1,()))))))))))))) (((),(s4.1.2.1,())),(s4.2.1,()))) (K (s4.2.1,(true,())))))))) (((),(1,())),(s3.2.1,())))))))) (((),(0,())),(s2.2.1,())))))))) (((),(0,())),(s1.2.2.1,())))))))))) (fun k=>(k (((),((),())),(s,(([]:List bpm),()))))))
theorem ar9(s:ac)(hok:ae (okL ku.args (s,())))(hpre:ae (ku.pre (s,()))):aa3 s (fun r=>r=ku.res (s,())):=by
 simp only[ku,okL,T.oks,T.ok,ap,ae,a0e,a0c,a0i]at hok hpre
 try dsimp only[T.den]at hok hpre
 unfold aa3;obtain⟨n0,n8,hf,ht⟩:=hpre;refine g8 (fun (q:bp4)=>q.2.1=s/\q.2.2.1=[]) ?_ (fun k hk=>hk _ ⟨rfl,rfl⟩);rintro⟨_,sc,l0,_⟩ ⟨e0,e1⟩;intros
 try dsimp only at e0 e1⊢
 subst e0;subst e1;refine bq (fun (q:bpo)=>0<=q.1.2.1/\q.1.2.1<=sc.1/\q.2.1=d6 q.1.2.1) (fun (q:bpo)=>(sc.1-q.1.2.1).toNat) ?_ ⟨by simp,n0,rfl⟩;rintro⟨⟨_,x,_⟩,l,_⟩ next ⟨x0,x1,q⟩ hnx
 intros
 try dsimp only at x0 x1 q hnx⊢
 subst q;have zl:(d6 x).length=x.toNat:=bh _;refine ao (fun hx=>?_) (fun hx=>?_)
 ·refine⟨c9 (by rw[zl];simp only[a0l,a0p];omega),by rw[al];(try dsimp only);omega,hnx _ ⟨by dsimp only;omega,by dsimp only;omega,?_⟩ (by dsimp only;omega)⟩
  try dsimp only
  unfold d6;rw[uv x0]
 have ex:x=sc.1:=by omega
 subst ex;clear hnx;have hz0:∀p∈d6 sc.1,atl sc p:=by intro p hp;unfold d6 at hp;obtain⟨e,h0,h1,rfl⟩:=pj.1 hp;exact⟨by simp,rfl⟩
 refine bq (fun (q:bpo)=>0<=q.1.2.1/\q.1.2.1<=400/\gf sc 402 0 (d6 sc.1)=gf sc (402-q.1.2.1).toNat q.1.2.1.toNat q.2.1/\(∀p∈q.2.1,atl sc p)/\q.2.1.length<=400) (fun (q:bpo)=>(400-q.1.2.1).toNat) ?_ ⟨by simp,by simp,rfl,hz0,by dsimp only;omega⟩;rintro⟨⟨_,k,_⟩,L,_⟩ next ⟨k0,k41,hg,hp,hL⟩ hnx
 intros
 try dsimp only at k0 k41 hg hp hL hnx⊢
 refine ao (fun hc=>?_) (fun hc=>?_)
 ·have hpk:=hp _ (ip L (0,[]) k0 hc);have hgk:gf sc 402 0 (d6 sc.1)=(if (L.getD k.toNat (0,[])).2.length=6 then gf sc (402-(k+1)).toNat (k+1).toNat L else if 400<(L++iq sc (L.getD k.toNat (0,[])) sc.2.1.length).length then ([],false)else gf sc (402-(k+1)).toNat (k+1).toNat (L++iq sc (L.getD k.toNat (0,[])) sc.2.1.length)):=by rw[hg,show (402-k).toNat=(402-(k+1)).toNat+1 from by omega,show (k+1).toNat=k.toNat+1 from by omega];rw[gf,d0 (by omega)]
  refine g8 (fun (q:bpt)=>gf sc 402 0 (d6 sc.1)=gf sc (402-(k+1)).toNat (k+1).toNat q.2.1/\(∀p∈q.2.1,atl sc p)/\q.2.1.length<=400) ?_ ?_
  ·rintro⟨_,M,_⟩ ⟨m1,m2,m3⟩;intros
   try dsimp only at m1 m2 m3⊢
   exact⟨by rw[al];(try dsimp only);omega,hnx _ ⟨by dsimp only;omega,by dsimp only;omega,m1,m2,m3⟩ (by dsimp only;omega)⟩
  intro kk hkk;generalize hP:L.getD k.toNat (0,[])=P at *;refine⟨k0,hc,a8 (fun h6=>?_) (fun h6=>?_)⟩
  ·have h6:P.2.length=6:=by have:=a1s h6;omega
   rw[d0 h6]at hgk;exact hkk _ ⟨hgk,hp,hL⟩
  have h6:¬P.2.length=6:=by have:=a14.1 h6;omega
  rw[ds h6]at hgk;refine bq (fun (q:bpo)=>0<=q.1.2.1/\q.1.2.1<=sc.2.1.length/\q.2.1=L++iq sc P q.1.2.1.toNat) (fun (q:bpo)=>(sc.2.1.length-q.1.2.1).toNat) ?_ ⟨by simp,by simp,by simp[iq,dv]⟩;rintro⟨⟨_,e,_⟩,M,_⟩ next1 ⟨e0,e1,q⟩ hn1;intros
  try dsimp only at e0 e1 q hn1⊢
  subst q;have hM:(L++iq sc P e.toNat).length<=400+sc.2.1.length:=by rw[a0q];have:=@bmc sc P e.toNat;omega
  have hMk:k<(L++iq sc P e.toNat).length:=by rw[a0q];omega
  have hG:(L++iq sc P e.toNat).getD k.toNat (0,[])=P:=by rw[atp (by omega),hP]
  have hE:=@awq sc P e e0;rw[hG];refine ao (fun he=>?_) (fun he=>?_)
  ·refine⟨e0,he,k0,hMk,hpk.2,g8 (fun (q:bpt)=>q.2.1=L++iq sc P (e+1).toNat) ?_ ?_⟩
   ·rintro⟨_,M2,_⟩ q2;intros
    try dsimp only at q2⊢
    subst q2;exact⟨by rw[al];(try dsimp only);omega,hn1 _ ⟨by dsimp only;omega,by dsimp only;omega,rfl⟩ (by dsimp only;omega)⟩
   ·intro k1 hk1;rw[hE]at hk1;have hp6:=hpk.1;refine a8 (fun hb=>?_) (fun hb=>?_)
    ·rw[d0 hb]at hk1;exact⟨k0,hMk,k0,hMk,by omega,c9 (by simp only[a0l,a0p];omega),c9 (by simp only[a0l,a0p];omega),hk1 _ (a06 _ _ _)⟩
    ·rw[ds (by rw[hb];decide),a2l]at hk1;exact hk1 _ rfl
  ·have ee:e=sc.2.1.length:=by omega
   subst ee;rw[a0m];refine ao (fun h4=>?_) (fun h4=>?_)
   ·rw[d0 (by omega)]at hgk;simp only[ku,cd];rw[hgk,ds (by decide)]
   ·rw[ds (by omega)]at hgk;refine hkk _ ⟨hgk,fun p hp'=>?_,by dsimp only;omega⟩;rcases a1m.1 hp' with h|h
    ·exact hp p h
    ·exact bmy ht hpk h6 (a0f _) h
 ·have hgl:gf sc 402 0 (d6 sc.1)=(L,true):=by rw[hg,show (402-k).toNat=(401-k).toNat+1 from by omega,gf,ds (by omega)]
  clear hnx;simp only[ku,cd];rw[hgl,d0 rfl]
  try dsimp only
  generalize hlt:t8 sc=lt at *;refine bq (fun (q:bpo)=>1<=q.1.2.1/\q.2.1=ah2 lt L q.1.2.1) (fun (q:bpo)=>(L.length-q.1.2.1).toNat) ?_ ⟨by simp,(boh L).symm⟩;rintro⟨⟨_,i,_⟩,A,_⟩ next1 ⟨i0,q⟩ hn1;intros
  try dsimp only at i0 q hn1⊢
  subst q;rw[bl9];refine ao (fun hi=>?_) (fun hi=>?_)
  ·have hs:=bm8 (lt:=lt) (l:=L) (i:=i) (by omega) hi;have hd:L.drop i.toNat=L.getD i.toNat (0,[])::L.drop (i+1).toNat:=nx L (0,[]) (by omega) hi;have ha:ah2 lt L (i+1)=(tm lt (L.getD i.toNat (0,[])) (abb lt (L.take i.toNat))).reverse++L.drop (i+1).toNat:=by unfold ah2;rw[hs]
   have hl:(abb lt (L.take i.toNat)).length=i.toNat:=by rw[axs,a1c];omega
   have hA:ah2 lt L i=(abb lt (L.take i.toNat)).reverse++L.getD i.toNat (0,[])::L.drop (i+1).toNat:=by unfold ah2;rw[hd]
   have hX:=hp _ (ip L (0,[]) (i:=i) (by omega) hi)
   have hRm:∀z∈abb lt (L.take i.toNat),atl sc z:=fun z hz=>by
    rcases axw _ _ hz with h|h
    ·cases h
    ·exact hp z (List.mem_of_mem_take h)
   rw[hA];generalize L.getD i.toNat (0,[])=X at *;generalize abb lt (L.take i.toNat)=R at *;generalize L.drop (i+1).toNat=Q at *;refine bq (fun (q:bpo)=>∃R1 R2,R=R1++R2/\(R2.length:Int)=q.1.2.1/\tm lt X R=R1++tm lt X R2/\q.2.1=R2.reverse++X::(R1.reverse++Q)) (fun (q:bpo)=>q.1.2.1.toNat) ?_ ⟨[],R,rfl,by dsimp only;omega,rfl,rfl⟩;rintro⟨⟨_,k,_⟩,B,_⟩ next2 ⟨R1,R2,r1,r2,r3,r4⟩ hn2;intros
   try dsimp only at r1 r2 r3 r4 hn2⊢
   subst r4
   cases R2 with
   |nil=>
    have ek:k=0:=by simpa using r2.symm
    subst ek;refine⟨fun h=>by simp at h,fun h=>by simp at h,fun h=>by simp at h,fun h=>by simp at h,a8 (fun h=>by simp at h) (fun _=>⟨by rw[al];(try dsimp only);omega,hn1 _ ⟨by dsimp only;omega,?_⟩ (by dsimp only;omega)⟩)⟩
    try dsimp only
    rw[ha,r3];simp[tm]
   |cons Y R2=>
    simp only[a0l]at r2;have hr:R1.length+(R2.length+1)=i.toNat:=by rw[←hl,r1];simp
    have hY:=hRm Y (by rw[r1];simp);have e1:(Y::R2).reverse++X::(R1.reverse++Q)=R2.reverse++Y::X::(R1.reverse++Q):=by simp
    rw[e1];have hk:k.toNat=R2.reverse.length+1:=by rw[a43];omega
    have hk1:(k-1).toNat=R2.reverse.length:=by rw[a43];omega
    rw[hk,hk1,bbi,bir,bjl];have hlen:((R2.reverse++Y::X::(R1.reverse++Q)).length:Int)=R2.length+2+R1.length+Q.length:=by simp;omega
    have hlen2:(((R2.reverse++Y::X::(R1.reverse++Q)).set (R2.reverse.length+1) Y).length:Int)=R2.length+2+R1.length+Q.length:=by rw[a1i];exact hlen
    have hk63:inK .i64 (k-1):=by rw[al];(try dsimp only);omega
    have y6:=hY.1;have x6:=hX.1;refine⟨fun _=>⟨by omega,by omega⟩,fun _=>hk63,fun _=>⟨by omega,by omega⟩,fun _=>⟨hY.2,by omega,by omega,hX.2⟩,a8 (fun h=>?_) (fun h=>?_)⟩
    ·simp only[a0a,a04]at h;refine⟨by omega,by omega,hk63,by omega,by omega,by omega,by omega,hk63,by omega,by omega,hk63,hn2 _ ⟨R1++[Y],R2,by simp[r1],by dsimp only;omega,?_,?_⟩ (by dsimp only;omega)⟩
     ·rw[r3];simp[tm,h.2]
     ·simp
    ·have hb:lt X Y=false:=by
      rcases Bool.and_eq_false_iff.1 h with h|h
      ·simp only[a2j]at h;omega
      ·exact h
     refine⟨by rw[al];(try dsimp only);omega,hn1 _ ⟨by dsimp only;omega,?_⟩ (by dsimp only;omega)⟩
     try dsimp only
     rw[ha,r3];simp[tm,hb]
  ·rw[bow (by omega)]
theorem apd:bt Tryz.prog 67 ku:=cf (Φ:=ap1) (ai ab6 (ai yj (ai ash aq))) bj (by kernel_rfl) (fn:=Tryz.f67) (c:=bf Tryz.f67) (by kernel_rfl) (by kernel_rfl) (by kernel_rfl) ku rfl apg (cu [(21,13),(13,11),(14,8000055014)]) (by kernel_rfl) (by kernel_rfl) (by kernel_rfl) (by decide) (fun x K=>aa3 x.1 K) (fun _ _=>by kernel_rfl) (fun x h1 h2=>ar9 x.1 h1 h2)
def cn(s:ac):List ab×Bool:=gf s 402 0 (d6 s.1)
theorem aom(s:ac)(e:Int):∀(nd:Int) (l:List Int),(be s nd l).2=true->0<=e->e<s.2.1.length->s.2.1.getD e.toNat 0=(be s nd l).1->(be s nd (l++[e])).2=true
 |nd,[],_,e0,e1,h2=>by simp only[be]at h2;simp only[a2u,be];rw[d0 ⟨ow.2 ⟨e0,by omega⟩,h2⟩]
 |nd,x::r,h,e0,e1,h2=>by
  simp only[be]at h h2;simp only[a2p,be];split at h
  ·rename_i hc;rw[d0 hc]at h2⊢;exact aom s e _ r h e0 e1 h2
  ·cases h
theorem aqj{s:ac}{p:ab}{e:Int}(h:(aw s p).2=true)(h6:¬p.2.length=6)(e0:0<=e)(e1:e<s.2.1.length)(h2:s.2.1.getD e.toNat 0=(aw s p).1):(aw s (p.1,p.2++[e])).2=true:=by
 unfold aw at h h2⊢;split at h
 ·rename_i hc;rw[d0 hc]at h2;rw[d0 ⟨hc.1,by have:=hc.2;rw[a0q];simp only[a0l,a0p];omega⟩];exact aom s e _ _ h e0 e1 h2
 ·cases h
theorem axr{s:ac}{p:ab}{a:Nat}:∀{b:Nat},a<=b->(iq s p a).length<=(iq s p b).length
 |0,h=>by rw[Nat.le_zero.1 h];exact a0f _
 |b+1,h=>by
  rcases a1l b a with h1|h1
  ·rw[show a=b+1 from by omega];exact a0f _
  ·refine a1a (axr h1) ?_;have:=@awq s p (b:Int) (Int.natCast_nonneg b);rw[show ((b:Int)+1).toNat=b+1 from by omega,a0m]at this;rw[this,a0q];omega
theorem as3{s:ac}{p q:ab}(hp:(aw s p).2=true)(h6:¬p.2.length=6){n:Nat}(hn:n<=s.2.1.length)(h:q∈iq s p n):(aw s q).2=true:=by unfold iq at h;obtain⟨e,he,rfl⟩:=a2c.1 h;obtain⟨he,hb⟩:=a38.1 he;obtain⟨_,h0,h1,rfl⟩:=pj.1 he;exact aqj hp h6 h0 (by omega) ((a1s hb).trans (il hp).1)
theorem x9{s:ac}{p:ab}(h:(aw s p).2=true):p.2.length<=6:=by
 unfold aw at h;split at h
 ·rename_i hc;exact hc.2
 ·cases h
theorem adx{s:ac}{x:Int}(h0:0<=x)(h1:x<s.1):(aw s (x,[])).2=true:=by unfold aw;rw[d0 ⟨ow.2 ⟨h0,by dsimp only;omega⟩,by simp⟩];rfl
def mm:Sp:=⟨[(.pt SchemaT)],[false],true,fun x=>(cn x.1).2,fun x=>[0<=x.1.1,x.1.1<=400,x.1.2.1.length<=1000000,x.1.2.2.1.length=x.1.2.1.length],[(false,(.fz (.sl PathT))),(false,(.fz (.er 119)))],fun x=>((cn x.1).1,false,()),[(false,(.fz (.sl PathT))),(false,(.fz (.er 119)))],fun x=>([],true,())⟩
def ia:Ct:=o7 mm true
def jo:Ct:=o7 mm false
def abm:Ct:=spC mm
def ze:Ann:=(.s .n (.j [(4,(.ref 800004 []))] [(800004,(.sl (.fz (.p (.int .i64) (.sl (.int .i64))))))] [0] (.s .n (.s (.s .n (.l [(4,(.ref 800004 [])),(16,(.d (.int .i64)))] [(800004,(.sl (.fz (.p (.int .i64) (.sl (.int .i64))))))] [0,15] .n)) (.s (.s .n (.l [(4,(.ref 800004 [])),(6,(.d (.int .i64)))] [(800004,(.sl (.fz (.p (.int .i64) (.sl (.int .i64))))))] [0] (.s .n (.s (.j [(4,(.ref 800004 []))] [(800004,(.sl (.fz (.p (.int .i64) (.sl (.int .i64))))))] [0,6] (.s .n (.s .n (.s .n (.l [(4,(.ref 800004 [])),(52,(.d (.int .i64)))] [(800004,(.sl (.fz (.p (.int .i64) (.sl (.int .i64))))))] [0,6,7,50,51] (.s .n (.s .n (.s (.j [(4,(.ref 800004 []))] [(800004,(.sl (.fz (.p (.int .i64) (.sl (.int .i64))))))] [0,6,7,50,51,52] .n) .n)))))))) .n)))) .n)))))
def aao:FuncId->Option Ct:=lkp [(74,fh),(77,m4)]
def ut(s:ac)(K:gx ia.rt->Prop):Prop:=(jd (S:=bpt) (fun s1=>((T.ok (T.sl PathT) s1.2.1)->(bi (S:=bpo) (fun s2=>(fun next=>((inK IntKind.i64 s2.1.2.1)->((T.ok (T.sl PathT) s2.2.1)->(cnd (decide (s2.1.2.1<s.1)) ((e9 s2.2.1.length (List.length ((s2.1.2.1,([]:List Int))::([]:List bpm))) 32)/\((inK IntKind.i64 (s2.1.2.1+(1:Int)))/\(next (((),((s2.1.2.1+(1:Int)),())),((s2.2.1++((s2.1.2.1,([]:List Int))::([]:List bpm))),()))))) (bi (S:=bpo) (fun s3=>(fun next1=>((inK IntKind.i64 s3.1.2.1)->((T.ok (T.sl PathT) s3.2.1)->(cnd (decide (s3.1.2.1<((s3.2.1.length:Nat):Int))) (jd (S:=bpt) (fun s4=>((T.ok (T.sl PathT) s4.2.1)->((inK IntKind.i64 (s3.1.2.1+(1:Int)))/\(next1 (((),((s3.1.2.1+(1:Int)),())),(s4.2.1,())))))) (fun k=>(((0:Int)<=s3.1.2.1)/\((s3.1.2.1<((s3.2.1.length:Nat):Int))/\(cnd ((((List.length (s3.2.1.getD s3.1.2.1.toNat ((0:Int),([]:List Int))).2):Nat):Int)==(6:Int)) (k (((),()),(s3.2.1,()))) (((0:Int)<=s3.1.2.1)/\((s3.1.2.1<((s3.2.1.length:Nat):Int))/\((s.2.1.length<=s.2.2.1.length)/\((inK IntKind.i64 (s.1-(1:Int)))/\(bi (S:=bpo) (fun s4=>(fun next2=>((inK IntKind.i64 s4.1.2.1)->((T.ok (T.sl PathT) s4.2.1)->(cnd (decide (s4.1.2.1<((s.2.1.length:Nat):Int))) (jd (S:=bpt) (fun s5=>((T.ok (T.sl PathT) s5.2.1)->((inK IntKind.i64 (s4.1.2.1+(1:Int)))/\(next2 (((),((s4.1.2.1+(1:Int)),())),(s5.2.1,())))))) (fun k1=>(((0:Int)<=s4.1.2.1)/\((s4.1.2.1<((s.2.1.length:Nat):Int))/\(cnd ((s.2.1.getD s4.1.2.1.toNat (0:Int)) != (aw s (s3.2.1.getD s3.1.2.1.toNat ((0:Int),([]:List Int)))).1) (k1 (((),()),(s4.2.1,()))) (cnd (((s4.2.1.length:Nat):Int)==(400:Int)) (K (([]:List bpm),(Bool.true,()))) (((0:Int)<=s3.1.2.1)/\((s3.1.2.1<((s4.2.1.length:Nat):Int))/\(((0:Int)<=s3.1.2.1)/\((s3.1.2.1<((s4.2.1.length:Nat):Int))/\(((List.length (s4.2.1.getD s3.1.2.1.toNat ((0:Int),([]:List Int))).2)<=1099511627776)/\((e9 (List.length (s4.2.1.getD s3.1.2.1.toNat ((0:Int),([]:List Int))).2) (List.length (s4.1.2.1::([]:List Int))) 8)/\((e9 s4.2.1.length (List.length (((s4.2.1.getD s3.1.2.1.toNat ((0:Int),([]:List Int))).1,((s4.2.1.getD s3.1.2.1.toNat ((0:Int),([]:List Int))).2++(s4.1.2.1::([]:List Int))))::([]:List bpm))) 32)/\(k1 (((),()),((s4.2.1++(((s4.2.1.getD s3.1.2.1.toNat ((0:Int),([]:List Int))).1,((s4.2.1.getD s3.1.2.1.toNat ((0:Int),([]:List Int))).2++(s4.1.2.1::([]:List Int))))::([]:List bpm))),())))))))))))))))) (k (((),()),(s4.2.1,())))))))) (((),((0:Int),())),(s3.2.1,())))))))))))) (K (s3.2.1,(Bool.false,())))))))) (((),((0:Int),())),(s2.2.1,())))))))) (((),((0:Int),())),(s1.2.1,()))))) (fun k=>(k (((),()),(([]:List bpm),())))))
theorem ai4(s:ac)(hok:ae (okL ia.args (s,())))(hpre:ae (ia.pre (s,()))):ut s (fun r=>r=ia.res (s,())):=by
 simp only[ia,o7,mm,okL,T.oks,T.ok,ap,ae,a0e,a0c,a0i]at hok hpre
 try dsimp only[T.den]at hok hpre
 unfold ut;obtain⟨hs,n0,n4,hf,ht⟩:=hpre;unfold cn at hs;refine g8 (fun (q:bpt)=>q.2.1=[]) ?_ (fun k hk=>hk _ rfl);rintro⟨_,l0,_⟩ e1;intros
 try dsimp only at e1⊢
 subst e1;refine bq (fun (q:bpo)=>0<=q.1.2.1/\q.1.2.1<=s.1/\q.2.1=d6 q.1.2.1) (fun (q:bpo)=>(s.1-q.1.2.1).toNat) ?_ ⟨by simp,n0,rfl⟩;rintro⟨⟨_,x,_⟩,l,_⟩ next ⟨x0,x1,q⟩ hnx
 intros
 try dsimp only at x0 x1 q hnx⊢
 subst q;have zl:(d6 x).length=x.toNat:=bh _;refine ao (fun hx=>?_) (fun hx=>?_)
 ·refine⟨c9 (by rw[zl];simp only[a0l,a0p];omega),by rw[al];(try dsimp only);omega,hnx _ ⟨by dsimp only;omega,by dsimp only;omega,?_⟩ (by dsimp only;omega)⟩
  try dsimp only
  unfold d6;rw[uv x0]
 have ex:x=s.1:=by omega
 subst ex;clear hnx;have hz0:∀p∈d6 s.1,(aw s p).2=true:=by intro p hp;unfold d6 at hp;obtain⟨e,h0,h1,rfl⟩:=pj.1 hp;exact adx h0 (by omega)
 refine bq (fun (q:bpo)=>0<=q.1.2.1/\q.1.2.1<=400/\gf s 402 0 (d6 s.1)=gf s (402-q.1.2.1).toNat q.1.2.1.toNat q.2.1/\(∀p∈q.2.1,(aw s p).2=true)/\q.2.1.length<=400) (fun (q:bpo)=>(400-q.1.2.1).toNat) ?_ ⟨by simp,by simp,rfl,hz0,by dsimp only;omega⟩;rintro⟨⟨_,k,_⟩,L,_⟩ next ⟨k0,k41,hg,hp,hL⟩ hnx
 intros
 try dsimp only at k0 k41 hg hp hL hnx⊢
 refine ao (fun hc=>?_) (fun hc=>?_)
 ·have hpk:=hp _ (ip L (0,[]) k0 hc);have hgk:gf s 402 0 (d6 s.1)=(if (L.getD k.toNat (0,[])).2.length=6 then gf s (402-(k+1)).toNat (k+1).toNat L else if 400<(L++iq s (L.getD k.toNat (0,[])) s.2.1.length).length then ([],false)else gf s (402-(k+1)).toNat (k+1).toNat (L++iq s (L.getD k.toNat (0,[])) s.2.1.length)):=by rw[hg,show (402-k).toNat=(402-(k+1)).toNat+1 from by omega,show (k+1).toNat=k.toNat+1 from by omega];rw[gf,d0 (by omega)]
  refine g8 (fun (q:bpt)=>gf s 402 0 (d6 s.1)=gf s (402-(k+1)).toNat (k+1).toNat q.2.1/\(∀p∈q.2.1,(aw s p).2=true)/\q.2.1.length<=400) ?_ ?_
  ·rintro⟨_,M,_⟩ ⟨m1,m2,m3⟩;intros
   try dsimp only at m1 m2 m3⊢
   exact⟨by rw[al];(try dsimp only);omega,hnx _ ⟨by dsimp only;omega,by dsimp only;omega,m1,m2,m3⟩ (by dsimp only;omega)⟩
  intro kk hkk;generalize hP:L.getD k.toNat (0,[])=P at *;refine⟨k0,hc,a8 (fun h6=>?_) (fun h6=>?_)⟩
  ·have h6:P.2.length=6:=by have:=a1s h6;omega
   rw[d0 h6]at hgk;exact hkk _ ⟨hgk,hp,hL⟩
  have h6:¬P.2.length=6:=by have:=a14.1 h6;omega
  rw[ds h6]at hgk;refine⟨k0,hc,by omega,by rw[al];(try dsimp only);omega,?_⟩;refine bq (fun (q:bpo)=>0<=q.1.2.1/\q.1.2.1<=s.2.1.length/\q.2.1=L++iq s P q.1.2.1.toNat/\q.2.1.length<=400) (fun (q:bpo)=>(s.2.1.length-q.1.2.1).toNat) ?_ ⟨by simp,by simp,by simp[iq,dv],hL⟩;rintro⟨⟨_,e,_⟩,M,_⟩ next1 ⟨e0,e1,q,hM⟩ hn1;intros
  try dsimp only at e0 e1 q hM hn1⊢
  subst q;have hMk:k<(L++iq s P e.toNat).length:=by rw[a0q];omega
  have hG:(L++iq s P e.toNat).getD k.toNat (0,[])=P:=by rw[atp (by omega),hP]
  have hE:=@awq s P e e0;rw[hG];have hp6:=x9 hpk;refine ao (fun he=>?_) (fun he=>?_)
  ·refine g8 (fun (q:bpt)=>q.2.1=L++iq s P (e+1).toNat/\q.2.1.length<=400) ?_ ?_
   ·rintro⟨_,M2,_⟩ ⟨q2,q3⟩;intros
    try dsimp only at q2 q3⊢
    subst q2;exact⟨by rw[al];(try dsimp only);omega,hn1 _ ⟨by dsimp only;omega,by dsimp only;omega,rfl,q3⟩ (by dsimp only;omega)⟩
   ·intro k1 hk1;rw[hE]at hk1;refine⟨e0,he,a8 (fun hb=>?_) (fun hb=>?_)⟩
    ·have hb:¬(s.2.1.getD e.toNat 0==gv s P)=true:=by rw[(il hpk).1];intro h;rw[a1s h]at hb;simp at hb
     rw[ds hb,a2l]at hk1;exact hk1 _ ⟨rfl,hM⟩
    ·have hb:(s.2.1.getD e.toNat 0==gv s P)=true:=by rw[(il hpk).1];exact a0s.2 (a1j.1 hb)
     rw[d0 hb]at hk1 hE;refine a8 (fun h4=>?_) (fun h4=>?_)
     ·have h4:=a1s h4;have hbig:400<(L++iq s P s.2.1.length).length:=by have:=@axr s P (e+1).toNat s.2.1.length (by omega);rw[hE]at this;simp only[a0q,a0l,a0p]at this h4⊢;omega
      rw[d0 hbig]at hgk;rw[hgk]at hs;cases hs
     ·have h4:=a14.1 h4;refine⟨k0,hMk,k0,hMk,by omega,c9 (by simp only[a0l,a0p];omega),c9 (by simp only[a0l,a0p];omega),hk1 _ ⟨a06 _ _ _,?_⟩⟩;rw[a0q];simp only[a0l,a0p];omega
  ·have ee:e=s.2.1.length:=by omega
   subst ee;rw[a0m]at hM⊢;rw[ds (by omega)]at hgk;refine hkk _ ⟨hgk,fun p hp'=>?_,hM⟩;rcases a1m.1 hp' with h|h
   ·exact hp p h
   ·exact as3 hpk h6 (a0f _) h
 ·have hgl:gf s 402 0 (d6 s.1)=(L,true):=by rw[hg,show (402-k).toNat=(401-k).toNat+1 from by omega,gf,ds (by omega)]
  simp only[ia,o7,mm,cn];rw[hgl]
theorem aib:bt Tryz.prog 110 ia:=cf (Φ:=aao) (ai lx (ai sq aq)) bj (by kernel_rfl) (fn:=Tryz.f110) (c:=bf Tryz.f110) (by kernel_rfl) (by kernel_rfl) (by kernel_rfl) ia rfl ze (cu [(18,8000055014)]) (by kernel_rfl) (by kernel_rfl) (by kernel_rfl) (by decide) (fun x K=>ut x.1 K) (fun _ _=>by kernel_rfl) (fun x h1 h2=>ai4 x.1 h1 h2)
def uu(s:ac)(K:gx jo.rt->Prop):Prop:=(jd (S:=bpt) (fun s1=>((T.ok (T.sl PathT) s1.2.1)->(bi (S:=bpo) (fun s2=>(fun next=>((inK IntKind.i64 s2.1.2.1)->((T.ok (T.sl PathT) s2.2.1)->(cnd (decide (s2.1.2.1<s.1)) ((e9 s2.2.1.length (List.length ((s2.1.2.1,([]:List Int))::([]:List bpm))) 32)/\((inK IntKind.i64 (s2.1.2.1+(1:Int)))/\(next (((),((s2.1.2.1+(1:Int)),())),((s2.2.1++((s2.1.2.1,([]:List Int))::([]:List bpm))),()))))) (bi (S:=bpo) (fun s3=>(fun next1=>((inK IntKind.i64 s3.1.2.1)->((T.ok (T.sl PathT) s3.2.1)->(cnd (decide (s3.1.2.1<((s3.2.1.length:Nat):Int))) (jd (S:=bpt) (fun s4=>((T.ok (T.sl PathT) s4.2.1)->((inK IntKind.i64 (s3.1.2.1+(1:Int)))/\(next1 (((),((s3.1.2.1+(1:Int)),())),(s4.2.1,())))))) (fun k=>(((0:Int)<=s3.1.2.1)/\((s3.1.2.1<((s3.2.1.length:Nat):Int))/\(cnd ((((List.length (s3.2.1.getD s3.1.2.1.toNat ((0:Int),([]:List Int))).2):Nat):Int)==(6:Int)) (k (((),()),(s3.2.1,()))) (((0:Int)<=s3.1.2.1)/\((s3.1.2.1<((s3.2.1.length:Nat):Int))/\((s.2.1.length<=s.2.2.1.length)/\((inK IntKind.i64 (s.1-(1:Int)))/\(bi (S:=bpo) (fun s4=>(fun next2=>((inK IntKind.i64 s4.1.2.1)->((T.ok (T.sl PathT) s4.2.1)->(cnd (decide (s4.1.2.1<((s.2.1.length:Nat):Int))) (jd (S:=bpt) (fun s5=>((T.ok (T.sl PathT) s5.2.1)->((inK IntKind.i64 (s4.1.2.1+(1:Int)))/\(next2 (((),((s4.1.2.1+(1:Int)),())),(s5.2.1,())))))) (fun k1=>(((0:Int)<=s4.1.2.1)/\((s4.1.2.1<((s.2.1.length:Nat):Int))/\(cnd ((s.2.1.getD s4.1.2.1.toNat (0:Int)) != (aw s (s3.2.1.getD s3.1.2.1.toNat ((0:Int),([]:List Int)))).1) (k1 (((),()),(s4.2.1,()))) (cnd (((s4.2.1.length:Nat):Int)==(400:Int)) (K (([]:List bpm),(Bool.true,()))) (((0:Int)<=s3.1.2.1)/\((s3.1.2.1<((s4.2.1.length:Nat):Int))/\(((0:Int)<=s3.1.2.1)/\((s3.1.2.1<((s4.2.1.length:Nat):Int))/\(((List.length (s4.2.1.getD s3.1.2.1.toNat ((0:Int),([]:List Int))).2)<=1099511627776)/\((e9 (List.length (s4.2.1.getD s3.1.2.1.toNat ((0:Int),([]:List Int))).2) (List.length (s4.1.2.1::([]:List Int))) 8)/\((e9 s4.2.1.length (List.length (((s4.2.1.getD s3.1.2.1.toNat ((0:Int),([]:List Int))).1,((s4.2.1.getD s3.1.2.1.toNat ((0:Int),([]:List Int))).2++(s4.1.2.1::([]:List Int))))::([]:List bpm))) 32)/\(k1 (((),()),((s4.2.1++(((s4.2.1.getD s3.1.2.1.toNat ((0:Int),([]:List Int))).1,((s4.2.1.getD s3.1.2.1.toNat ((0:Int),([]:List Int))).2++(s4.1.2.1::([]:List Int))))::([]:List bpm))),())))))))))))))))) (k (((),()),(s4.2.1,())))))))) (((),((0:Int),())),(s3.2.1,())))))))))))) (K (s3.2.1,(Bool.false,())))))))) (((),((0:Int),())),(s2.2.1,())))))))) (((),((0:Int),())),(s1.2.1,()))))) (fun k=>(k (((),()),(([]:List bpm),())))))
theorem aiv(s:ac)(hok:ae (okL jo.args (s,())))(hpre:ae (jo.pre (s,()))):uu s (fun r=>r=jo.res (s,())):=by
 simp only[jo,o7,mm,okL,T.oks,T.ok,ap,ae,a0e,a0c,a0i]at hok hpre
 try dsimp only[T.den]at hok hpre
 unfold uu;obtain⟨hs,n0,n4,hf,ht⟩:=hpre;unfold cn at hs;refine g8 (fun (q:bpt)=>q.2.1=[]) ?_ (fun k hk=>hk _ rfl);rintro⟨_,l0,_⟩ e1;intros
 try dsimp only at e1⊢
 subst e1;refine bq (fun (q:bpo)=>0<=q.1.2.1/\q.1.2.1<=s.1/\q.2.1=d6 q.1.2.1) (fun (q:bpo)=>(s.1-q.1.2.1).toNat) ?_ ⟨by simp,n0,rfl⟩;rintro⟨⟨_,x,_⟩,l,_⟩ next ⟨x0,x1,q⟩ hnx
 intros
 try dsimp only at x0 x1 q hnx⊢
 subst q;have zl:(d6 x).length=x.toNat:=bh _;refine ao (fun hx=>?_) (fun hx=>?_)
 ·refine⟨c9 (by rw[zl];simp only[a0l,a0p];omega),by rw[al];(try dsimp only);omega,hnx _ ⟨by dsimp only;omega,by dsimp only;omega,?_⟩ (by dsimp only;omega)⟩
  try dsimp only
  unfold d6;rw[uv x0]
 have ex:x=s.1:=by omega
 subst ex;clear hnx;have hz0:∀p∈d6 s.1,(aw s p).2=true:=by intro p hp;unfold d6 at hp;obtain⟨e,h0,h1,rfl⟩:=pj.1 hp;exact adx h0 (by omega)
 refine bq (fun (q:bpo)=>0<=q.1.2.1/\q.1.2.1<=400/\gf s 402 0 (d6 s.1)=gf s (402-q.1.2.1).toNat q.1.2.1.toNat q.2.1/\(∀p∈q.2.1,(aw s p).2=true)/\q.2.1.length<=400) (fun (q:bpo)=>(400-q.1.2.1).toNat) ?_ ⟨by simp,by simp,rfl,hz0,by dsimp only;omega⟩;rintro⟨⟨_,k,_⟩,L,_⟩ next ⟨k0,k41,hg,hp,hL⟩ hnx
 intros
 try dsimp only at k0 k41 hg hp hL hnx⊢
 refine ao (fun hc=>?_) (fun hc=>?_)
 ·have hpk:=hp _ (ip L (0,[]) k0 hc);have hgk:gf s 402 0 (d6 s.1)=(if (L.getD k.toNat (0,[])).2.length=6 then gf s (402-(k+1)).toNat (k+1).toNat L else if 400<(L++iq s (L.getD k.toNat (0,[])) s.2.1.length).length then ([],false)else gf s (402-(k+1)).toNat (k+1).toNat (L++iq s (L.getD k.toNat (0,[])) s.2.1.length)):=by rw[hg,show (402-k).toNat=(402-(k+1)).toNat+1 from by omega,show (k+1).toNat=k.toNat+1 from by omega];rw[gf,d0 (by omega)]
  refine g8 (fun (q:bpt)=>gf s 402 0 (d6 s.1)=gf s (402-(k+1)).toNat (k+1).toNat q.2.1/\(∀p∈q.2.1,(aw s p).2=true)/\q.2.1.length<=400) ?_ ?_
  ·rintro⟨_,M,_⟩ ⟨m1,m2,m3⟩;intros
   try dsimp only at m1 m2 m3⊢
   exact⟨by rw[al];(try dsimp only);omega,hnx _ ⟨by dsimp only;omega,by dsimp only;omega,m1,m2,m3⟩ (by dsimp only;omega)⟩
  intro kk hkk;generalize hP:L.getD k.toNat (0,[])=P at *;refine⟨k0,hc,a8 (fun h6=>?_) (fun h6=>?_)⟩
  ·have h6:P.2.length=6:=by have:=a1s h6;omega
   rw[d0 h6]at hgk;exact hkk _ ⟨hgk,hp,hL⟩
  have h6:¬P.2.length=6:=by have:=a14.1 h6;omega
  rw[ds h6]at hgk;refine⟨k0,hc,by omega,by rw[al];(try dsimp only);omega,?_⟩;refine bq (fun (q:bpo)=>0<=q.1.2.1/\q.1.2.1<=s.2.1.length/\q.2.1=L++iq s P q.1.2.1.toNat/\q.2.1.length<=400) (fun (q:bpo)=>(s.2.1.length-q.1.2.1).toNat) ?_ ⟨by simp,by simp,by simp[iq,dv],hL⟩;rintro⟨⟨_,e,_⟩,M,_⟩ next1 ⟨e0,e1,q,hM⟩ hn1;intros
  try dsimp only at e0 e1 q hM hn1⊢
  subst q;have hMk:k<(L++iq s P e.toNat).length:=by rw[a0q];omega
  have hG:(L++iq s P e.toNat).getD k.toNat (0,[])=P:=by rw[atp (by omega),hP]
  have hE:=@awq s P e e0;rw[hG];have hp6:=x9 hpk;refine ao (fun he=>?_) (fun he=>?_)
  ·refine g8 (fun (q:bpt)=>q.2.1=L++iq s P (e+1).toNat/\q.2.1.length<=400) ?_ ?_
   ·rintro⟨_,M2,_⟩ ⟨q2,q3⟩;intros
    try dsimp only at q2 q3⊢
    subst q2;exact⟨by rw[al];(try dsimp only);omega,hn1 _ ⟨by dsimp only;omega,by dsimp only;omega,rfl,q3⟩ (by dsimp only;omega)⟩
   ·intro k1 hk1;rw[hE]at hk1;refine⟨e0,he,a8 (fun hb=>?_) (fun hb=>?_)⟩
    ·have hb:¬(s.2.1.getD e.toNat 0==gv s P)=true:=by rw[(il hpk).1];intro h;rw[a1s h]at hb;simp at hb
     rw[ds hb,a2l]at hk1;exact hk1 _ ⟨rfl,hM⟩
    ·have hb:(s.2.1.getD e.toNat 0==gv s P)=true:=by rw[(il hpk).1];exact a0s.2 (a1j.1 hb)
     rw[d0 hb]at hk1 hE;refine a8 (fun h4=>?_) (fun h4=>?_)
     ·have h4:=a1s h4;have hbig:400<(L++iq s P s.2.1.length).length:=by have:=@axr s P (e+1).toNat s.2.1.length (by omega);rw[hE]at this;simp only[a0q,a0l,a0p]at this h4⊢;omega
      rw[d0 hbig]at hgk;rfl
     ·have h4:=a14.1 h4;refine⟨k0,hMk,k0,hMk,by omega,c9 (by simp only[a0l,a0p];omega),c9 (by simp only[a0l,a0p];omega),hk1 _ ⟨a06 _ _ _,?_⟩⟩;rw[a0q];simp only[a0l,a0p];omega
  ·have ee:e=s.2.1.length:=by omega
   subst ee;rw[a0m]at hM⊢;rw[ds (by omega)]at hgk;refine hkk _ ⟨hgk,fun p hp'=>?_,hM⟩;rcases a1m.1 hp' with h|h
   ·exact hp p h
   ·exact as3 hpk h6 (a0f _) h
 ·have hgl:gf s 402 0 (d6 s.1)=(L,true):=by rw[hg,show (402-k).toNat=(401-k).toNat+1 from by omega,gf,ds (by omega)]
  rw[hgl]at hs;cases hs
theorem ahz:bt Tryz.prog 110 jo:=cf (Φ:=aao) (ai lx (ai sq aq)) bj (by kernel_rfl) (fn:=Tryz.f110) (c:=bf Tryz.f110) (by kernel_rfl) (by kernel_rfl) (by kernel_rfl) jo rfl ze (cu [(18,8000055014)]) (by kernel_rfl) (by kernel_rfl) (by kernel_rfl) (by decide) (fun x K=>uu x.1 K) (fun _ _=>by kernel_rfl) (fun x h1 h2=>aiv x.1 h1 h2)
theorem abi:bt Tryz.prog 110 abm:=asi aib ahz
def gu{α:Type}[DecidableEq α]:List α->α->Int
 |[],_=>-1
 |a::r,x=>if a=x then 0 else (if gu r x<0 then -1 else gu r x+1)
theorem qi{α:Type}[DecidableEq α](z:α):∀{l:List α} {x:α},(x∈l->0<=gu l x/\gu l x<l.length/\l.getD (gu l x).toNat z=x/\∀i:Int,0<=i->i<gu l x->l.getD i.toNat z≠x)/\(x∉l->gu l x=-1)
 |[],x=>by simp[gu]
 |a::r,x=>by
  have ih:=@qi α _ z r x;rw[gu];by_cases h:a=x
  ·subst h;simp only[a03,a0u,true_or,not_true_eq_false,false_implies,a0c,true_implies];exact⟨a0r _,by simp,rfl,fun i i0 i1=>by omega⟩
  ·rw[ds h];simp only[a0u,not_or];refine⟨fun hm=>?_,fun hm=>?_⟩
   ·have hm:x∈r:=hm.resolve_left fun e=>h e.symm;obtain⟨h0,h1,h2,h3⟩:=ih.1 hm;rw[ds (by omega)];have e:(gu r x+1).toNat=(gu r x).toNat+1:=by omega
    refine⟨by omega,by simp only[a0l];omega,by rw[e,a4s];exact h2,fun i i0 i1=>?_⟩;by_cases hi:i=0
    ·rw[hi];exact h
    ·have e:i.toNat=(i-1).toNat+1:=by omega
     rw[e,a4s];exact h3 (i-1) (by omega) (by omega)
   ·rw[ih.2 hm.2,d0 (by omega)]
theorem arq{α:Type}[DecidableEq α]{z:α}{l:List α}{x:α}{i:Int}(i0:0<=i)(i1:i<l.length)(h:l.getD i.toNat z=x)(hn:∀k:Int,0<=k->k<i->l.getD k.toNat z≠x):gu l x=i:=by
 have hm:x∈l:=h▸ip l z i0 i1;obtain⟨h0,h1,h2,h3⟩:=(qi z).1 hm;rcases Int.lt_trichotomy (gu l x) i with hl|hl|hl
 ·exact absurd h2 (hn _ h0 hl)
 ·exact hl
 ·exact absurd h (h3 i i0 hl)
theorem bmk{α:Type}[DecidableEq α]{z:α}{l:List α}{x:α}(hn:∀k:Int,0<=k->k<l.length->l.getD k.toNat z≠x):gu l x=-1:=by refine (qi z).2 fun hm=>?_;obtain⟨h0,h1,h2,_⟩:=(qi z).1 hm;exact hn _ h0 h1 h2
def lm(s:List Int)(k:Int):List Int:=if gu s k<0 then s++[k]else s
def gy(l:List Int):List Int:=l.foldl lm []
def cj(l:List Int):List Int:=l.map (gu (gy l))
theorem bca{s:List Int}{k:Int}(r:List Int)(h:0<=gu s k):gu (s++r) k=gu s k:=by
 have hm:k∈s:=a3k fun hn=>by have:=(qi (0:Int)).2 hn;omega
 obtain⟨h0,h1,h2,h3⟩:=(qi (0:Int)).1 hm;have hg:∀i:Int,0<=i->i<s.length->(s++r).getD i.toNat 0=s.getD i.toNat 0:=fun i i0 i1=>by simp only[a0o];rw[a1e (by omega)]
 refine arq (z:=(0:Int)) h0 (by rw[a0q];omega) (by rw[hg _ h0 h1];exact h2) fun i i0 i1=>?_;rw[hg i i0 (by omega)];exact h3 i i0 i1
theorem bbt:∀(l:List Int) (s:List Int),∃r,l.foldl lm s=s++r
 |[],s=>⟨[],by simp⟩
 |k::l,s=>by
  obtain⟨r,hr⟩:=bbt l (lm s k);rw[a12,hr];unfold lm;split
  ·exact⟨k::r,by simp⟩
  ·exact⟨r,rfl⟩
theorem an8:∀(l:List Int) (s:List Int),(l.foldl lm s).length<=s.length+l.length
 |[],s=>by simp
 |k::l,s=>by
  have:=an8 l (lm s k);rw[a12,a0l];have h2:(lm s k).length<=s.length+1:=by unfold lm;split <;> simp
  omega
theorem awo{l:List Int}{i:Int}(i0:0<=i)(i1:i<l.length):gy (l.take (i+1).toNat)=lm (gy (l.take i.toNat)) (l.getD i.toNat 0):=by rw[mo l 0 i0 i1];unfold gy;rw[a3c];rfl
theorem ajb{l:List Int}{n:Nat}{k:Int}(h:0<=gu (gy (l.take n)) k):gu (gy l) k=gu (gy (l.take n)) k:=by
 obtain⟨r,hr⟩:=bbt (l.drop n) (gy (l.take n))
 have:gy l=gy (l.take n)++r:=by
  rw[←hr]
  conv=>lhs;rw[←a10 n l]
  unfold gy;rw[a3c]
 rw[this,bca r h]
theorem aus{s:List Int}{k:Int}(h:gu s k<0):gu (s++[k]) k=s.length:=by
 have hm:k∉s:=fun hm=>by have:=((qi (0:Int)).1 hm).1;omega
 refine arq (z:=(0:Int)) (by omega) (by simp only[a0q,a0l,a0p];omega) (by simp[a0o]) fun i i0 i1=>?_;simp only[a0o];rw[a1e (by omega)];intro e;exact hm (e▸(by rw[←a0o];exact ip s 0 i0 i1))
structure NumM (m:List (Int×Int)) (s:List Int):Prop where
 n:m.length=s.length
 f:∀k:Int,qy (.int .i64) (.int .i64) m k=if gu s k<0 then none else some (gu s k)
theorem avk{x y z:Int}:∀{l:List (Int×Int)},qy (.int .i64) (.int .i64) (jh (.int .i64) (.int .i64) l x z) y=if y=x then some z else qy (.int .i64) (.int .i64) l y
 |[]=>by
  show qy (.int .i64) (.int .i64) [(x,z)] y=_;rw[iv];by_cases h:y=x
  ·rw[d0 (fe.2 h),d0 h]
  ·rw[ds (fun e=>h (fe.1 e)),ds h]
 |e::r=>by
  have ih:=@avk x y z r;unfold jh;by_cases h:eqR (.int .i64) x e.1=true
  ·rw[d0 h,iv,iv];have e1:=fe.1 h;rw[←e1];by_cases h2:y=x
   ·rw[d0 (fe.2 h2),d0 h2]
   ·rw[ds (fun e=>h2 (fe.1 e)),ds h2,ds (fun e=>h2 (fe.1 e))]
  ·rw[ds h,iv,iv,ih];by_cases h2:eqR (.int .i64) y e.1=true
   ·rw[d0 h2,d0 h2,ds];intro h3;exact h (fe.2 (h3▸fe.1 h2))
   ·rw[ds h2,ds h2]
theorem NumM.add{m:List (Int×Int)}{s:List Int}(h:NumM m s){k:Int}(hk:gu s k<0):NumM (jh (.int .i64) (.int .i64) m k m.length) (s++[k]):=by
 have hno:k∉m.map (·.1):=fun hm=>by
  have:∀{l:List (Int×Int)},k∈l.map (·.1)->qy (.int .i64) (.int .i64) l k≠none:=by
   intro l
   induction l with
   |nil=>intro h;simp at h
   |cons e r ih=>
    intro hm;rw[iv];split
    ·simp
    ·rename_i h1;rcases a0u.1 hm with h2|h2
     ·exact absurd (fe.2 h2) h1
     ·exact ih h2
  have:=this hm;rw[h.f,d0 hk]at this;exact this rfl
 refine⟨?_,fun y=>?_⟩
 ·have:=@ax0 (.int .i64) (.int .i64) k m.length m hno;rw[this,a0q,h.n];rfl
 ·rw[avk];by_cases e:y=k
  ·subst e;rw[d0 rfl,aus hk,ds (by omega),h.n]
  ·rw[ds e,h.f];by_cases hy:gu s y<0
   ·have hn:y∉s:=fun hm=>by have:=((qi (0:Int)).1 hm).1;omega
    have:gu (s++[k]) y=-1:=(qi (0:Int)).2 (by simp[hn,e]);rw[d0 hy,this,d0 (by omega)]
   ·rw[bca _ (by omega)]
def o6:Ct:=⟨[(.sl (.int .i64))],[false],fun x=>[x.1.length<=1099511627776],[(false,(.sl (.fz (.int .i64))))],fun x=>(cj x.1,()),false,none⟩
def as7:Ann:=(.s .n (.s .n (.s .n (.s (.s .n (.l [(3,(.ref 9 [])),(4,(.ref 12 [])),(15,(.d (.int .i64)))] [(9,(.mp (.int .i64) (.int .i64))),(12,(.sl (.fz (.int .i64))))] [13,14] (.s .n (.s .n (.s (.s .n (.s .n (.s (.s .n (.j [(3,(.ref 9 [])),(4,(.ref 12 [])),(7,(.d (.int .i64)))] [(9,(.mp (.int .i64) (.int .i64))),(12,(.sl (.fz (.int .i64))))] [5,13,14,15] .n)) .n))) .n))))) .n))))
def aec(labels:List Int)(K:(List Int)×Unit->Prop):Prop:=((0<=(labels.length:Int))/\(((labels.length:Int)<=(labels.length:Int))/\(((labels.length:Int)<=((140737488355328:Nat):Int))/\((((labels.length:Int)*((8:Nat):Int))<=((140737488355328:Nat):Int))/\(bi (S:=bpz) (fun s=>(fun next=>((inK .i64 s.1.2.2.1)->((T.ok (T.mp (.int .i64) (.int .i64)) s.2.1)->((T.ok (.sl (.int .i64)) s.2.2.1)->(cnd (decide (s.1.2.2.1<(labels.length:Int))) ((0<=s.1.2.2.1)/\((s.1.2.2.1<(labels.length:Int))/\(jd (S:=bpz) (fun s1=>((inK .i64 s1.1.2.2.1)->((T.ok (T.mp (.int .i64) (.int .i64)) s1.2.1)->((T.ok (.sl (.int .i64)) s1.2.2.1)->((0<=s.1.2.2.1)/\((s.1.2.2.1<(s1.2.2.1.length:Int))/\((inK .i64 (s.1.2.2.1+1))/\(next (((),((),((s.1.2.2.1+1),()))),(s1.2.1,((List.set s1.2.2.1 s.1.2.2.1.toNat s1.1.2.2.1),()))))))))))) (fun k=>(cnd (!(ahu (.int .i64) (.int .i64) s.2.1 (labels.getD s.1.2.2.1.toNat 0))) ((e9 s.2.1.length 1 1)/\(k (((),((),((s.2.1.length:Int),()))),((jh (.int .i64) (.int .i64) s.2.1 (labels.getD s.1.2.2.1.toNat 0) (s.2.1.length:Int)),(s.2.2.1,()))))) (k (((),((),((pp (.int .i64) (.int .i64) s.2.1 (labels.getD s.1.2.2.1.toNat 0)),()))),(s.2.1,(s.2.2.1,()))))))))) (K (s.2.2.1,())))))))) (((),((),(0,()))),(([]:List (Int×Int)),((List.replicate (Int.toNat (labels.length:Int)) (0:Int)),()))))))))
theorem awc(labels:List Int)(hok:ae (okL o6.args (labels,())))(hpre:ae (o6.pre (labels,()))):aec labels (fun r=>r=o6.res (labels,())):=by
 simp only[o6,okL,T.oks,T.ok,ap,ae,a0e,a0c,a0i]at hok hpre
 try dsimp only[T.den]at hok hpre
 unfold aec;have hl:labels.length<=1099511627776:=hpre;clear hok;refine⟨by omega,a0r _,by omega,by omega,?_⟩;rw[a0m,afk];refine bq (fun (s:bpz)=>0<=s.1.2.2.1/\s.1.2.2.1<=labels.length/\NumM s.2.1 (gy (labels.take s.1.2.2.1.toNat))/\s.2.2.1=dv labels.length fun k=>if k<s.1.2.2.1 then gu (gy labels) (labels.getD k.toNat 0)else 0) (fun (s:bpz)=>(labels.length-s.1.2.2.1).toNat) ?_ ⟨by simp,by simp,⟨rfl,fun k=>rfl⟩,df fun k k0 _=>by dsimp only;rw[ds (by omega)]⟩;rintro⟨⟨_,_,i,_⟩,m,out,_⟩ next ⟨i0,i1,hM,ho⟩ hn _ _ _
 try dsimp only at i0 i1 hM ho hn⊢
 refine ao (fun hc=>?_) (fun hc=>?_)
 ·have hs:=@awo labels i i0 hc;have hex:=@ajb labels (i+1).toNat (labels.getD i.toNat 0);have hml:m.length<=labels.length:=by rw[hM.n];have:=an8 (labels.take i.toNat) [];rw[a1c]at this;simp only[a0p]at this;unfold gy;omega
  have hout:∀v:Int,v=gu (gy labels) (labels.getD i.toNat 0)->out.set i.toNat v=dv labels.length fun k=>if k<i+1 then gu (gy labels) (labels.getD k.toNat 0)else 0:=fun v hv=>by
   rw[ho,x7 i0 hc];refine df fun k k0 k1=>?_;by_cases h:k=i
   ·rw[d0 h,d0 (by omega),hv,h]
   ·rw[ds h];by_cases h2:k<i
    ·rw[d0 h2,d0 (by omega)]
    ·rw[ds h2,ds (by omega)]
  have hol:i<(out.length:Int):=by rw[ho,bh];exact hc
  rw[hs]at hex;generalize labels.getD i.toNat 0=k at *;refine⟨i0,hc,?_⟩;refine g8 (fun (s:bpz)=>NumM s.2.1 (lm (gy (labels.take i.toNat)) k)/\s.1.2.2.1=gu (gy labels) k/\s.2.2.1=out) (fun s ⟨s1,s2,s3⟩ _ _ _=>⟨i0,by rw[s3];exact hol,by rw[al];(try dsimp only);omega,hn _ ⟨by dsimp only;omega,by dsimp only;omega,by dsimp only;rw[hs];exact s1,by dsimp only;rw[s3];exact hout _ s2⟩ (by dsimp only;omega)⟩) (fun kk hk=>?_);have hf:=hM.f k;refine a8 (fun hx=>?_) (fun hx=>?_)
  ·have hneg:gu (gy (labels.take i.toNat)) k<0:=by refine a3k fun h=>?_;rw[ds h]at hf;simp[ahu,hf]at hx
   have hd:lm (gy (labels.take i.toNat)) k=gy (labels.take i.toNat)++[k]:=by unfold lm;rw[d0 hneg]
   have hi:=aus hneg;rw[hd]at hex hk;rw[hi]at hex;refine⟨by unfold e9;rw[cg];omega,hk _ ⟨hM.add hneg,?_,rfl⟩⟩
   try dsimp only
   rw[hex (by omega),hM.n]
  ·have hpos:¬gu (gy (labels.take i.toNat)) k<0:=fun h=>by rw[d0 h]at hf;simp[ahu,hf]at hx
   have hd:lm (gy (labels.take i.toNat)) k=gy (labels.take i.toNat):=by unfold lm;rw[ds hpos]
   rw[ds hpos]at hf;rw[hd]at hex hk;refine hk _ ⟨hM,?_,rfl⟩
   try dsimp only
   rw[hex (by omega)];unfold pp;rw[hf];rfl
 ·have e:i=labels.length:=by omega
  subst e;simp only[o6,cj];rw[ho];congr 1;apply a16;intro k;rw[a05];by_cases hk:k<labels.length
  ·have h1:=@ov Int (fun k=>if k<(labels.length:Int)then gu (gy labels) (labels.getD k.toNat 0)else 0) 0 k labels.length (by omega) (by omega);rw[a0m,d0 (by omega),a0o,a0n (by rw[bh];exact hk)]at h1;rw[a0n (by rw[bh];exact hk),a0n hk];simp only[a02]at h1;rw[h1,a0o,a0n hk];rfl
  ·rw[a1o (by rw[bh];omega),a1o (by omega)];rfl
theorem as8:bt Tryz.prog 130 o6:=cf (Φ:=lkp []) aq bj (by kernel_rfl) (fn:=Tryz.f130) (c:=bf Tryz.f130) (by kernel_rfl) (by kernel_rfl) (by kernel_rfl) o6 rfl as7 (cu []) (by kernel_rfl) (by kernel_rfl) (by kernel_rfl) (by decide) (fun x K=>aec x.1 K) (fun _ _=>by kernel_rfl) (fun x h1 h2=>awc x.1 h1 h2)
def eh(j:List Int):List Int:=dv j.length (ef j)
def asc(j:List Int):Nat->List Int
 |0=>j
 |n+1=>(cy (asc j n) n).1
def bm3(j:List Int):List Int:=asc j j.length
def fy:Wt:=⟨(.sl (.fz (.int .i64))),[],[],fun x y=>[UfP x,x.length<=1099511627776],fun x y=>bm3 x,[(false,(.sl (.fz (.int .i64))))],fun x y=>(cj (eh x),())⟩
def yr:Ct:=at6 fy
def af4:Ann:=(.s .n (.s .n (.s (.s .n (.l [(0,(.ref 1000000 [])),(3,(.ref 7 [])),(10,(.d (.int .i64)))] [(1000000,(.sl (.fz (.int .i64)))),(7,(.sl (.fz (.int .i64))))] [9] .n)) .n)))
def agb:FuncId->Option Ct:=lkp [(129,xn),(130,o6)]
def yo(j:List Int)(K:(List Int)->bpp->Prop):Prop:=((0<=(j.length:Int))/\(((j.length:Int)<=(j.length:Int))/\(((j.length:Int)<=((140737488355328:Nat):Int))/\((((j.length:Int)*((8:Nat):Int))<=((140737488355328:Nat):Int))/\(bi (S:=bpx) (fun s=>(fun next=>((inK .i64 s.1.2.2.1)->((T.ok (.sl (.int .i64)) s.2.1)->((T.ok (.sl (.int .i64)) s.2.2.1)->(cnd (decide (s.1.2.2.1<(j.length:Int))) ((UfP s.2.1)/\((0<=s.1.2.2.1)/\((s.1.2.2.1<(s.2.1.length:Int))/\((0<=s.1.2.2.1)/\((s.1.2.2.1<(s.2.2.1.length:Int))/\((inK .i64 (s.1.2.2.1+1))/\(next (((),((),((s.1.2.2.1+1),()))),((cy s.2.1 s.1.2.2.1).1,((List.set s.2.2.1 s.1.2.2.1.toNat (cy s.2.1 s.1.2.2.1).2),())))))))))) ((s.2.2.1.length<=1099511627776)/\(K s.2.1 ((cj s.2.2.1),()))))))))) (((),((),(0,()))),(j,((List.replicate (Int.toNat (j.length:Int)) (0:Int)),()))))))))
theorem ag7(j:List Int)(hok:ae (fy.o.strip.oks j))(hok2:ae (okL fy.as (())))(hpre:ae (fy.pre j (()))):yo j (fun z r=>z=fy.new j (())/\r=fy.res j (())):=by
 simp only[fy,O.strip,okL,T.oks,T.ok,ap,ae,a0e,a0c,a0i]at hok hok2 hpre
 try dsimp only[T.den]at hok
 try dsimp only[T.den]at hok2
 try dsimp only[T.den]at hpre
 unfold yo;obtain⟨U,hl⟩:=hpre;clear hok;refine⟨by omega,a0r _,by omega,by omega,?_⟩;rw[a0m,afk];refine bq (fun (s:bpx)=>0<=s.1.2.2.1/\s.1.2.2.1<=j.length/\s.2.1=asc j s.1.2.2.1.toNat/\UfP s.2.1/\s.2.1.length=j.length/\(∀y:Int,0<=y->y<j.length->ef s.2.1 y=ef j y)/\s.2.2.1=dv j.length fun k=>if k<s.1.2.2.1 then ef j k else 0) (fun (s:bpx)=>(j.length-s.1.2.2.1).toNat) ?_ ⟨by simp,by simp,rfl,U,rfl,fun _ _ _=>rfl,df fun k k0 _=>by dsimp only;rw[ds (by omega)]⟩;rintro⟨⟨_,_,i,_⟩,l,out,_⟩ next ⟨i0,i1,hq,V,hll,hr,ho⟩ hn _ _ _
 try dsimp only at i0 i1 hq V hll hr ho hn⊢
 refine ao (fun hc=>?_) (fun hc=>?_)
 ·obtain⟨a1,a2,a3,a4⟩:=aix V i0 (by omega);refine⟨V,i0,by omega,i0,by rw[ho,bh];exact hc,by rw[al];(try dsimp only);omega,hn _ ⟨by dsimp only;omega,by dsimp only;omega,?_,a1,by dsimp only;rw[a2];exact hll,fun y y0 y1=>?_,?_⟩ (by dsimp only;omega)⟩
  ·try dsimp only
   rw[show (i+1).toNat=i.toNat+1 from by omega,asc,hq,show ((i.toNat:Nat):Int)=i from by omega]
  ·try dsimp only;rw[a4 y y0 (by omega),hr y y0 y1]
  ·try dsimp only
   rw[ho,x7 i0 hc];refine df fun k k0 k1=>?_;by_cases h:k=i
   ·rw[d0 h,d0 (by omega),a3,hr i i0 hc,h]
   ·rw[ds h];by_cases h2:k<i
    ·rw[d0 h2,d0 (by omega)]
    ·rw[ds h2,ds (by omega)]
 ·have e:i=j.length:=by omega
  subst e;have hrep:out=eh j:=by rw[ho];exact df fun k _ k1=>by rw[d0 k1]
  refine⟨by rw[ho,bh];exact hl,?_⟩;rw[a0m]at hq;exact⟨hq,by rw[hrep];rfl⟩
theorem xz:bt Tryz.prog 116 yr:=bdt (Φ:=agb) (ai abn (ai as8 aq)) bj (by kernel_rfl) (fn:=Tryz.f116) (c:=bf Tryz.f116) (by kernel_rfl) (by kernel_rfl) (by kernel_rfl) fy af4 (cu []) (by kernel_rfl) (by kernel_rfl) (by kernel_rfl) (by decide) (by kernel_rfl) (fun x y h1 h2 h3=>Eq.mp (by kernel_rfl) (ag7 x h1 h2 h3))
def ja(p:List Int):Int:=p.foldl (fun n k=>mxR n (k+1)) 0
theorem boq{p:List Int}{i:Int}(i0:0<=i)(i1:i<p.length):ja (p.take (i+1).toNat)=mxR (ja (p.take i.toNat)) (p.getD i.toNat 0+1):=by rw[mo p 0 i0 i1];unfold ja;rw[a3c];rfl
def fx:Ct:=⟨[(.sl (.int .i64))],[false],fun x=>[x.1.length<=1099511627776,bm x.1 1099511627776=true],[(false,(.fz (.int .i64)))],fun x=>(ja x.1,()),false,none⟩
def ae8:Ann:=(.s .n (.s .n (.s (.s .n (.l [(3,(.d (.int .i64))),(8,(.d (.int .i64)))] [] [6,7] .n)) .n)))
def rz(p:List Int)(K:Int×Unit->Prop):Prop:=(bi (S:=bpu) (fun s=>(fun next=>((inK .i64 s.1.1)->((inK .i64 s.1.2.1)->(cnd (decide (s.1.2.1<(p.length:Int))) ((0<=s.1.2.1)/\((s.1.2.1<(p.length:Int))/\((inK .i64 ((p.getD s.1.2.1.toNat 0)+1))/\((inK .i64 (s.1.2.1+1))/\(next (((mxR s.1.1 ((p.getD s.1.2.1.toNat 0)+1)),((s.1.2.1+1),())),())))))) (K (s.1.1,()))))))) ((0,(0,())),()))
theorem ag1(p:List Int)(hok:ae (okL fx.args (p,())))(hpre:ae (fx.pre (p,()))):rz p (fun r=>r=fx.res (p,())):=by
 simp only[fx,okL,T.oks,T.ok,ap,ae,a0e,a0c,a0i]at hok hpre
 try dsimp only[T.den]at hok hpre
 unfold rz;obtain⟨hl,hw⟩:=hpre;clear hok;refine bq (fun (s:bpu)=>0<=s.1.2.1/\s.1.2.1<=p.length/\s.1.1=ja (p.take s.1.2.1.toNat)) (fun (s:bpu)=>(p.length-s.1.2.1).toNat) ?_ ⟨by simp,by simp,rfl⟩;rintro⟨⟨n,i,_⟩,_⟩ next ⟨i0,i1,hq⟩ hn _ _
 try dsimp only at i0 i1 hq hn⊢
 refine ao (fun hc=>?_) (fun hc=>?_)
 ·have hk:=kv.1 hw i i0 hc;refine⟨i0,hc,by rw[al];(try dsimp only);omega,by rw[al];(try dsimp only);omega,hn _ ⟨by dsimp only;omega,by dsimp only;omega,?_⟩ (by dsimp only;omega)⟩
  try dsimp only
  rw[boq i0 hc,hq]
 ·simp only[fx];rw[hq,qw _ (by omega)]
theorem wx:bt Tryz.prog 117 fx:=cf (Φ:=lkp []) aq bj (by kernel_rfl) (fn:=Tryz.f117) (c:=bf Tryz.f117) (by kernel_rfl) (by kernel_rfl) (by kernel_rfl) fx rfl ae8 (cu []) (by kernel_rfl) (by kernel_rfl) (by kernel_rfl) (by decide) (fun x K=>rz x.1 K) (fun _ _=>by kernel_rfl) (fun x h1 h2=>ag1 x.1 h1 h2)
def r9(p q:ab):Int:=if (p.2.length:Int)-q.2.length≠0 then (p.2.length:Int)-q.2.length else fk p.2 q.2
def g7:Ct:=⟨[PathT,PathT],[true,true],fun x=>[x.1.2.length<=1000000,x.2.1.2.length<=1000000],[(false,(.fz (.int .i64)))],fun x=>(r9 x.1 x.2.1,()),false,none⟩
def wq(p:ab)(q:ab)(K:Int×Unit->Prop):Prop:=((inK .i64 ((p.2.length:Int)-(q.2.length:Int)))/\(cnd (((p.2.length:Int)-(q.2.length:Int)) != 0) (K (((p.2.length:Int)-(q.2.length:Int)),())) (K ((fk p.2 q.2),()))))
theorem ali(p:ab)(q:ab)(hok:ae (okL g7.args (p,q,())))(hpre:ae (g7.pre (p,q,()))):wq p q (fun r=>r=g7.res (p,q,())):=by
 simp only[g7,okL,T.oks,T.ok,ap,ae,a0e,a0c,a0i]at hok hpre
 try dsimp only[T.den]at hok hpre
 unfold wq;obtain⟨h1,h2⟩:=hpre;simp only[g7,r9];refine⟨by rw[al];(try dsimp only);omega,a8 (fun h=>?_) (fun h=>?_)⟩
 ·rw[a37]at h;rw[d0 h]
 ·have h:=a1j.1 h;rw[ds (fun hh=>hh h)]
theorem vj:bt Tryz.prog 118 g7:=cf (Φ:=lkp [(106,gg)]) (ai aas aq) bj (by kernel_rfl) (fn:=Tryz.f118) (c:=bf Tryz.f118) (by kernel_rfl) (by kernel_rfl) (by kernel_rfl) g7 rfl .n (cu []) (by kernel_rfl) (by kernel_rfl) (by kernel_rfl) (by decide) (fun x K=>wq x.1 x.2.1 K) (fun _ _=>by kernel_rfl) (fun x h1 h2=>ali x.1 x.2.1 h1 h2)
def fq(n:Int):List Int:=dv n.toNat fun i=>i
theorem bo4{n:Nat}{i:Int}(i0:0<=i)(i1:i<n):(dv n fun k=>if k<i then k else 0).set i.toNat i=dv n fun k=>if k<i+1 then k else 0:=by
 rw[x7 i0 i1];refine df fun k k0 k1=>?_;by_cases h:k=i
 ·rw[d0 h,d0 (by omega),h]
 ·rw[ds h];by_cases h2:k<i
  ·rw[d0 h2,d0 (by omega)]
  ·rw[ds h2,ds (by omega)]
def mb:Ct:=⟨[(.int .i64)],[false],fun x=>[0<=x.1,x.1<=1099511627776],[(false,(.sl (.fz (.int .i64))))],fun x=>(fq x.1,()),false,none⟩
def arm:Ann:=(.s .n (.s .n (.s (.s .n (.l [(3,(.ref 6 [])),(9,(.d (.int .i64)))] [(6,(.sl (.fz (.int .i64))))] [8] .n)) .n)))
def acf(n:Int)(K:(List Int)×Unit->Prop):Prop:=((0<=n)/\((n<=n)/\((n<=((140737488355328:Nat):Int))/\(((n*((8:Nat):Int))<=((140737488355328:Nat):Int))/\(bi (S:=(bpn×bpp)) (fun s=>(fun next=>((inK .i64 s.1.2.1)->((T.ok (.sl (.int .i64)) s.2.1)->(cnd (decide (s.1.2.1<(((List.length (List.replicate n.toNat (0:Int))):Nat):Int))) ((0<=s.1.2.1)/\((s.1.2.1<(s.2.1.length:Int))/\((inK .i64 (s.1.2.1+1))/\(next (((),((s.1.2.1+1),())),((List.set s.2.1 s.1.2.1.toNat s.1.2.1),())))))) (K (s.2.1,()))))))) (((),(0,())),((List.replicate n.toNat (0:Int)),())))))))
theorem aub(n:Int)(hok:ae (okL mb.args (n,())))(hpre:ae (mb.pre (n,()))):acf n (fun r=>r=mb.res (n,())):=by
 simp only[mb,okL,T.oks,T.ok,ap,ae,a0e,a0c,a0i]at hok hpre
 try dsimp only[T.den]at hok hpre
 unfold acf;obtain⟨n0,n1⟩:=hpre;refine⟨n0,a0r _,by omega,by omega,?_⟩;rw[afk,bh];refine aca (n:=(n.toNat:Int)) (fun i=>dv n.toNat fun k=>if k<i then k else 0) (by omega) (df fun k k0 _=>by rw[ds (by omega)]) ?_ ?_
 ·intro i next i0 i1 hn _ _
  try dsimp only at hn⊢
  rw[←bo4 i0 i1]at hn;exact ao (fun _=>⟨i0,by rw[bh];exact i1,by rw[al];(try dsimp only);omega,hn⟩) (fun h=>absurd i1 h)
 ·intro next _ _
  refine ao (fun h=>absurd h (a21 _)) (fun _=>?_);simp only[mb,fq];exact congrArg (fun z=>(z,())) (df fun k _ k1=>by rw[d0 k1])
theorem ahj:bt Tryz.prog 119 mb:=cf (Φ:=lkp []) aq bj (by kernel_rfl) (fn:=Tryz.f119) (c:=bf Tryz.f119) (by kernel_rfl) (by kernel_rfl) (by kernel_rfl) mb rfl arm (cu []) (by kernel_rfl) (by kernel_rfl) (by kernel_rfl) (by decide) (fun x K=>acf x.1 K) (fun _ _=>by kernel_rfl) (fun x h1 h2=>aub x.1 h1 h2)
def ol:Ct:=⟨[(.int .i64)],[false],fun x=>[0<=x.1,x.1<=1099511627776],[(false,(.sl (.fz (.int .i64))))],fun x=>(fq x.1,()),false,none⟩
def aa9(n:Int)(K:(List Int)×Unit->Prop):Prop:=((0<=n)/\((n<=1099511627776)/\(K ((fq n),()))))
theorem asg(n:Int)(hok:ae (okL ol.args (n,())))(hpre:ae (ol.pre (n,()))):aa9 n (fun r=>r=ol.res (n,())):=by
 simp only[ol,okL,T.oks,T.ok,ap,ae,a0e,a0c,a0i]at hok hpre
 try dsimp only[T.den]at hok hpre
 unfold aa9;exact⟨hpre.1,hpre.2,rfl⟩
theorem af1:bt Tryz.prog 112 ol:=cf (Φ:=lkp [(119,mb)]) (ai ahj aq) bj (by kernel_rfl) (fn:=Tryz.f112) (c:=bf Tryz.f112) (by kernel_rfl) (by kernel_rfl) (by kernel_rfl) ol rfl .n (cu []) (by kernel_rfl) (by kernel_rfl) (by kernel_rfl) (by decide) (fun x K=>aa9 x.1 K) (fun _ _=>by kernel_rfl) (fun x h1 h2=>asg x.1 h1 h2)
end Go.Bm
