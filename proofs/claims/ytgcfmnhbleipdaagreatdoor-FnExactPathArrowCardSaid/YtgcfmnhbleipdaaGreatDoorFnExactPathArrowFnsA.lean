/- What the functions that FnExactPathArrow reaches give: for each its contract, what it asks, and the proof. No condition. -/
import Derived.Test.YtgcfmnhbleipdaaGreatDoorTab
import Derived.Shelf.SlSortCmp.NoneTotal
import Derived.Shelf.SlGeneric
import Derived.Ground.SlsfProg
import Derived.LaidEql
import Derived.Stop.Asserts
import Derived.RowKitTokens
import Derived.WalkKit
namespace Go.Bm
open Go.Proofs
abbrev a0i:=@implies_true
abbrev a2j:=@decide_eq_false_iff_not
abbrev a1j:=@bne_eq_false_iff_eq
abbrev a17:=@beq_eq_false_iff_ne
abbrev a37:=@bne_iff_ne
abbrev a21:=@Int.lt_irrefl
abbrev a1y:=@Int.toNat_of_nonneg
abbrev a38:=@List.mem_filter
abbrev a3c:=@List.foldl_append
abbrev a43:=@List.length_reverse
abbrev a1s:=@eq_of_beq
abbrev a4s:=@List.getD_cons_succ
abbrev bo7:Type:=((Int×((List Int)×((List Int)×((List Int)×(List (List Int))))))×((List (Int×(List Int)))×(List Int)))
abbrev bo8:Type:=(((Int×((List Int)×((List Int)×((List (Int×(List Int)))×(List (Int×(List Int)))))))×((Int×((List Int)×((List Int)×((List Int)×(List (List Int))))))×((List Int)×(List (Int×(List Int))))))×Unit)
abbrev bo9:Type:=(Int×(List Int))
abbrev bpa:Type:=(Unit×(Int×Unit))
abbrev bpb:Type:=((List Int)×Unit)
abbrev bpc:Type:=(bpa×((List bo9)×Unit))
abbrev bpd:Type:=((Int×Unit)×Unit)
abbrev bpe:Type:=((List Int)×(List bo9))
abbrev bpf:Type:=(Unit×(Unit×bpa))
abbrev bpg:Type:=((Unit×Unit)×((List bo9)×Unit))
abbrev bph:Type:=((Int×(Int×Unit))×Unit)
abbrev bpi:Type:=((Unit×bpa)×(bo7×(bo7×Unit)))
abbrev bpj:Type:=((List Int)×bo8)
abbrev bpk:Type:=((List (List Int))×(bo9×(bo9×Unit)))
abbrev bpl:Type:=((Unit×bpa)×((List Int)×bpb))
abbrev bpm:Type:=((List Int)×(Int×(bo9×Unit)))
abbrev bpn:Type:=(Unit×(Int×(Unit×Unit)))
abbrev bpo:Type:=((Unit×bpa)×((List (Int×Int))×bpb))
abbrev bpp:Type:=(bpa×((List (List Int))×Unit))
abbrev bpq:Type:=((Unit×(Unit×(Unit×(Int×(Int×Unit)))))×(bo7×(bo7×bpb)))
abbrev bpr:Type:=((Unit×(Unit×Unit))×((Int×((List Int)×((List Int)×((List bo9)×(List bo9)))))×((List bo9)×Unit)))
abbrev bps:Type:=(bpf×(bo7×(bo7×bpb)))
set_option maxRecDepth 100000
set_option maxHeartbeats 1000000
set_option linter.unusedVariables false
set_option linter.unusedSimpArgs false
def gi(c:bq)(f g:Int):Int:=(c.2.2.2.2.getD f.toNat []).getD g.toNat 0
def iw:Ct:=⟨[(.pt gp),(.int .i64),(.int .i64)],[false,false,false],fun x=>[0<=x.2.1,x.2.1<x.1.2.2.2.2.length,0<=x.2.2.1,x.2.2.1<(x.1.2.2.2.2.getD x.2.1.toNat []).length],[(false,(.fz (.int .i64)))],fun x=>(gi x.1 x.2.1 x.2.2.1,()),false,none⟩
def vy(c:bq)(f:Int)(g:Int)(K:Int×Unit->Prop):Prop:=((0<=f)/\((f<((c.2.2.2.2.length:Nat):Int))/\((0<=g)/\((g<(((List.length (c.2.2.2.2.getD f.toNat [])):Nat):Int))/\(K ((List.getD (c.2.2.2.2.getD f.toNat []) g.toNat 0),()))))))
theorem akc(c:bq)(f:Int)(g:Int)(hok:ae (okL iw.args (c,f,g,())))(hpre:ae (iw.pre (c,f,g,()))):vy c f g (fun r=>r=iw.res (c,f,g,())):=by
 simp only[iw,okL,T.oks,T.ok,ap,ae,a0e,a0c,a0i]at hok hpre
 try dsimp only[T.den]at hok hpre
 unfold vy;exact⟨hpre.1,hpre.2.1,hpre.2.2.1,hpre.2.2.2,rfl⟩
theorem zv:bz Tryz.prog 79 iw:=ci (Φ:=lkp []) ao bm (by kernel_rfl) (fn:=Tryz.f79) (c:=bg Tryz.f79) (by kernel_rfl) (by kernel_rfl) (by kernel_rfl) iw rfl .n (cu []) (by kernel_rfl) (by kernel_rfl) (by kernel_rfl) (by decide) (fun x K=>vy x.1 x.2.1 x.2.2.1 K) (fun _ _=>by kernel_rfl) (fun x h1 h2=>akc x.1 x.2.1 x.2.2.1 h1 h2)
def fp:Ct:=⟨[(.pt gp)],[false],fun x=>[],[(false,(.fz (.int .i64)))],fun x=>((x.1.2.1.length:Int),()),false,none⟩
def ua(c:bq)(K:Int×Unit->Prop):Prop:=(K (((c.2.1.length:Nat):Int),()))
theorem aht(c:bq)(hok:ae (okL fp.args (c,())))(hpre:ae (fp.pre (c,()))):ua c (fun r=>r=fp.res (c,())):=by
 simp only[fp,okL,T.oks,T.ok,ap,ae,a0e,a0c,a0i]at hok hpre
 try dsimp only[T.den]at hok hpre
 unfold ua;rfl
theorem sq:bz Tryz.prog 104 fp:=ci (Φ:=lkp []) ao bm (by kernel_rfl) (fn:=Tryz.f104) (c:=bg Tryz.f104) (by kernel_rfl) (by kernel_rfl) (by kernel_rfl) fp rfl .n (cu []) (by kernel_rfl) (by kernel_rfl) (by kernel_rfl) (by decide) (fun x K=>ua x.1 K) (fun _ _=>by kernel_rfl) (fun x h1 h2=>aht x.1 h1 h2)
def jq:Ct:=⟨[(.pt gp),(.int .i64)],[false,false],fun x=>[0<=x.2.1,x.2.1<x.1.2.1.length,x.2.1<x.1.2.2.1.length],[(true,(.fz bok))],fun x=>(((x.1.2.1.getD x.2.1.toNat 0,x.1.2.2.1.getD x.2.1.toNat 0):Int×Int),()),false,none⟩
def vg(c:bq)(f:Int)(K:bnz×Unit->Prop):Prop:=((0<=f)/\((f<((c.2.1.length:Nat):Int))/\((0<=f)/\((f<((c.2.2.1.length:Nat):Int))/\(K (((c.2.1.getD f.toNat 0),(c.2.2.1.getD f.toNat 0)),()))))))
theorem akf(c:bq)(f:Int)(hok:ae (okL jq.args (c,f,())))(hpre:ae (jq.pre (c,f,()))):vg c f (fun r=>r=jq.res (c,f,())):=by
 simp only[jq,okL,T.oks,T.ok,ap,ae,a0e,a0c,a0i]at hok hpre
 try dsimp only[T.den]at hok hpre
 unfold vg;exact⟨hpre.1,hpre.2.1,hpre.1,hpre.2.2,rfl⟩
theorem air:bz Tryz.prog 53 jq:=ci (Φ:=lkp []) ao bm (by kernel_rfl) (fn:=Tryz.f53) (c:=bg Tryz.f53) (by kernel_rfl) (by kernel_rfl) (by kernel_rfl) jq rfl .n (cu [(1,15)]) (by kernel_rfl) (by kernel_rfl) (by kernel_rfl) (by decide) (fun x K=>vg x.1 x.2.1 K) (fun _ _=>by kernel_rfl) (fun x h1 h2=>akf x.1 x.2.1 h1 h2)
def iq:Ct:=⟨[(.int .i64),(.int .i64),(.int .i64)],[false,false,false],fun x=>[],[(false,(.fz .bool))],fun x=>(inR x.1 x.2.1 x.2.2.1,()),false,none⟩
def abz(n:Int)(low:Int)(high:Int)(K:Bool×Unit->Prop):Prop:=(K (((decide (low<=n))&&(decide (n<=high))),()))
theorem atv(n:Int)(low:Int)(high:Int)(hok:ae (okL iq.args (n,low,high,())))(hpre:ae (iq.pre (n,low,high,()))):abz n low high (fun r=>r=iq.res (n,low,high,())):=by
 simp only[iq,okL,T.oks,T.ok,ap,ae,a0e,a0c,a0i]at hok hpre
 try dsimp only[T.den]at hok hpre
 unfold abz
 grind[cnd,cj,al,iq,inR]
theorem tg:bz Tryz.prog 72 iq:=ci (Φ:=lkp []) ao bm (by kernel_rfl) (fn:=Tryz.f72) (c:=bg Tryz.f72) (by kernel_rfl) (by kernel_rfl) (by kernel_rfl) iq rfl .n (cu []) (by kernel_rfl) (by kernel_rfl) (by kernel_rfl) (by decide) (fun x K=>abz x.1 x.2.1 x.2.2.1 K) (fun _ _=>by kernel_rfl) (fun x h1 h2=>atv x.1 x.2.1 x.2.2.1 h1 h2)
def ly:Ct:=⟨[(.sl (.int .i64)),(.int .i64)],[false,false],fun x=>[inK .i64 (x.2.1-1)],[(false,(.fz .bool))],fun x=>(bh x.1 x.2.1,()),false,none⟩
def asy:Ann:=(.s .n (.s (.s .n (.l [(9,(.d (.int .i64)))] [] [1,7,8] .n)) .n))
def ad4(list:List Int)(n:Int)(K:Bool×Unit->Prop):Prop:=(be (S:=bpd) (fun s=>(fun next=>((inK .i64 s.1.1)->(cnd (decide (s.1.1<((list.length:Nat):Int))) ((0<=s.1.1)/\((s.1.1<((list.length:Nat):Int))/\((inK .i64 (n-1))/\(cnd (!(inR (list.getD s.1.1.toNat 0) 0 (n-1))) (K (false,())) ((inK .i64 (s.1.1+1))/\(next (((s.1.1+1),()),()))))))) (K (true,())))))) ((0,()),()))
theorem avx(list:List Int)(n:Int)(hok:ae (okL ly.args (list,n,())))(hpre:ae (ly.pre (list,n,()))):ad4 list n (fun r=>r=ly.res (list,n,())):=by
 simp only[ly,okL,T.oks,T.ok,ap,ae,a0e,a0c,a0i]at hok hpre
 try dsimp only[T.den]at hok hpre
 unfold ad4;refine br (fun (s:bpd)=>0<=s.1.1/\s.1.1<=list.length/\bh list n=bh (list.drop s.1.1.toNat) n) (fun (s:bpd)=>(list.length-s.1.1).toNat) ?_ (by simp);rintro⟨⟨i,_⟩,_⟩ next ⟨h0,h1,h2⟩ hn hin
 simp only at h0 h1 h2 hn⊢;refine aq (fun hc=>?_) (fun hc=>?_)
 ·rw[ny list 0 h0 hc]at h2;simp only[bh,a3m]at h2
  grind[cnd,cj,al,ly,bh]
 ·rw[qr list (by omega)]at h2
  grind[cnd,cj,al,ly,bh]
theorem aif:bz Tryz.prog 73 ly:=ci (Φ:=lkp [(72,iq)]) (ai tg ao) bm (by kernel_rfl) (fn:=Tryz.f73) (c:=bg Tryz.f73) (by kernel_rfl) (by kernel_rfl) (by kernel_rfl) ly rfl asy (cu []) (by kernel_rfl) (by kernel_rfl) (by kernel_rfl) (by decide) (fun x K=>ad4 x.1 x.2.1 K) (fun _ _=>by kernel_rfl) (fun x h1 h2=>avx x.1 x.2.1 h1 h2)
def x8(c:bq)(f g v:Int):Bool:=
 if c.2.2.1.getD f.toNat 0=c.2.1.getD g.toNat 0 then decide (0<=v/\v<c.2.1.length/\c.2.1.getD v.toNat 0=c.2.1.getD f.toNat 0/\c.2.2.1.getD v.toNat 0=c.2.2.1.getD g.toNat 0)
 else decide (v=-1)
def ug(c:bq)(f g:Int):Bool:=x8 c f g (gi c f g)
structure ShapeP (c:bq):Prop where
 ob:0<=c.1/\c.1<=8
 m:c.2.1.length<=40
 lt:c.2.2.1.length=c.2.1.length
 fr:bh c.2.1 c.1=true
 to:bh c.2.2.1 c.1=true
 li:(c.2.2.2.1.length:Int)=c.1
 ids:bh c.2.2.2.1 c.2.1.length=true
 lc:c.2.2.2.2.length=c.2.1.length
 idt:∀x:Int,0<=x->x<c.1->c.2.1.getD (c.2.2.2.1.getD x.toNat 0).toNat 0=x/\c.2.2.1.getD (c.2.2.2.1.getD x.toNat 0).toNat 0=x
 row:∀f:Int,0<=f->f<c.2.1.length->(c.2.2.2.2.getD f.toNat []).length=c.2.1.length
 cell:∀f g:Int,0<=f->f<c.2.1.length->0<=g->g<c.2.1.length->ug c f g=true
def y7(c:bq):Bool:=inR c.1 0 8&&decide (c.2.1.length<=40)&&decide (c.2.2.1.length=c.2.1.length)&&bh c.2.1 c.1&&bh c.2.2.1 c.1&&decide ((c.2.2.2.1.length:Int)=c.1)&&bh c.2.2.2.1 c.2.1.length &&
 decide (c.2.2.2.2.length=c.2.1.length)&&ro c.1.toNat (fun x=>decide (c.2.1.getD (c.2.2.2.1.getD x.toNat 0).toNat 0=x/\c.2.2.1.getD (c.2.2.2.1.getD x.toNat 0).toNat 0=x)) &&
 ro c.2.1.length (fun f=>decide ((c.2.2.2.2.getD f.toNat []).length=c.2.1.length))&&ro c.2.1.length (fun f=>ro c.2.1.length fun g=>ug c f g)
theorem adn{c:bq}:y7 c=true<->ShapeP c:=by
 simp only[y7,a0a,a04,inR,af5];constructor
 ·rintro⟨⟨⟨⟨⟨⟨⟨⟨⟨⟨h0,h1⟩,h2⟩,h3⟩,h4⟩,h5⟩,h6⟩,h7⟩,h8⟩,h9⟩,h10⟩;exact⟨h0,h1,h2,h3,h4,h5,h6,h7,fun x a b=>h8 x a (by omega),h9,fun f g a b d e=>h10 f a b g d e⟩
 ·intro h;exact⟨⟨⟨⟨⟨⟨⟨⟨⟨⟨h.ob,h.m⟩,h.lt⟩,h.fr⟩,h.to⟩,h.li⟩,h.ids⟩,h.lc⟩,fun x a b=>h.idt x a (by have:=h.ob;omega)⟩,h.row⟩,fun f a b g d e=>h.cell f g a b d e⟩
theorem amq{c:bq}(h:¬ShapeP c):y7 c=false:=by
 cases hs:y7 c with
 |false=>rfl
 |true=>exact absurd (adn.1 hs) h
theorem bb6{c:bq}(h:ShapeP c):y7 c=true:=adn.2 h
def db:Ct:=⟨[(.pt gp)],[false],fun x=>[],[(false,(.fz .bool))],fun x=>(y7 x.1,()),false,none⟩
def afq:Ann:=(.s .n (.s .n (.s .n (.s .n (.s (.s .n (.l [(88,(.d (.int .i64)))] [] [0,3,86,87] .n)) (.s (.s .n (.l [(106,(.d (.int .i64)))] [] [0,3,104,105] (.s .n (.s .n (.s (.s .n (.s .n (.s .n (.l [(117,(.d (.int .i64)))] [] [0,3,6,104,105,106,115,116] (.s .n (.s .n (.s (.j [] [] [0,3,6,104,105,106,115,116,117] .n) .n))))))) .n))))) .n))))))
def agk:FuncId->Option Ct:=lkp [(104,fp),(53,jq),(72,iq),(73,ly)]
def sf(c:bq)(K:Bool×Unit->Prop):Prop:=((((((!(inR c.1 0 8))||(decide (40<((c.2.1.length:Nat):Int))))||(((c.2.2.1.length:Nat):Int) != ((c.2.1.length:Nat):Int)))=false)->(inK .i64 (c.1-1)))/\(((((((!(inR c.1 0 8))||(decide (40<((c.2.1.length:Nat):Int))))||(((c.2.2.1.length:Nat):Int) != ((c.2.1.length:Nat):Int)))||(!(bh c.2.1 c.1)))=false)->(inK .i64 (c.1-1)))/\(cnd (((((!(inR c.1 0 8))||(decide (40<((c.2.1.length:Nat):Int))))||(((c.2.2.1.length:Nat):Int) != ((c.2.1.length:Nat):Int)))||(!(bh c.2.1 c.1)))||(!(bh c.2.2.1 c.1))) (K (false,())) ((((((c.2.2.2.1.length:Nat):Int) != c.1)=false)->(inK .i64 (((c.2.1.length:Nat):Int)-1)))/\(cnd (((((c.2.2.2.1.length:Nat):Int) != c.1)||(!(bh c.2.2.2.1 ((c.2.1.length:Nat):Int))))||(((c.2.2.2.2.length:Nat):Int) != ((c.2.1.length:Nat):Int))) (K (false,())) (be (S:=bpd) (fun s=>(fun next=>((inK .i64 s.1.1)->(cnd (decide (s.1.1<((c.2.2.2.1.length:Nat):Int))) ((0<=s.1.1)/\((s.1.1<((c.2.2.2.1.length:Nat):Int))/\((0<=(c.2.2.2.1.getD s.1.1.toNat 0))/\(((c.2.2.2.1.getD s.1.1.toNat 0)<((c.2.1.length:Nat):Int))/\(((c.2.2.2.1.getD s.1.1.toNat 0)<((c.2.2.1.length:Nat):Int))/\(cnd (!(((c.2.1.getD (Int.toNat (c.2.2.2.1.getD s.1.1.toNat 0)) 0)==s.1.1)&&((c.2.2.1.getD (Int.toNat (c.2.2.2.1.getD s.1.1.toNat 0)) 0)==s.1.1))) (K (false,())) ((inK .i64 (s.1.1+1))/\(next (((s.1.1+1),()),()))))))))) (be (S:=bpd) (fun s1=>(fun next1=>((inK .i64 s1.1.1)->(cnd (decide (s1.1.1<((c.2.2.2.2.length:Nat):Int))) ((0<=s1.1.1)/\((s1.1.1<((c.2.2.2.2.length:Nat):Int))/\(cnd ((((List.length (c.2.2.2.2.getD s1.1.1.toNat [])):Nat):Int) != ((c.2.1.length:Nat):Int)) (K (false,())) (be (S:=bpd) (fun s2=>(fun next2=>((inK .i64 s2.1.1)->(cnd (decide (s2.1.1<(((List.length (c.2.2.2.2.getD s1.1.1.toNat [])):Nat):Int))) (ic (S:=(Unit×Unit)) (fun s3=>((inK .i64 (s2.1.1+1))/\(next2 (((s2.1.1+1),()),())))) (fun k=>((0<=s2.1.1)/\((s2.1.1<(((List.length (c.2.2.2.2.getD s1.1.1.toNat [])):Nat):Int))/\((0<=s1.1.1)/\((s1.1.1<((c.2.2.1.length:Nat):Int))/\((0<=s2.1.1)/\((s2.1.1<((c.2.1.length:Nat):Int))/\(cnd ((c.2.2.1.getD s1.1.1.toNat 0) != (c.2.1.getD s2.1.1.toNat 0)) (cnd ((List.getD (c.2.2.2.2.getD s1.1.1.toNat []) s2.1.1.toNat 0) != (-1)) (K (false,())) (k ((),()))) ((inK .i64 (((c.2.1.length:Nat):Int)-1))/\((((!(inR (List.getD (c.2.2.2.2.getD s1.1.1.toNat []) s2.1.1.toNat 0) 0 (((c.2.1.length:Nat):Int)-1)))=false)->(((List.getD (c.2.2.2.2.getD s1.1.1.toNat []) s2.1.1.toNat 0)<((c.2.1.length:Nat):Int))/\(((List.getD (c.2.2.2.2.getD s1.1.1.toNat []) s2.1.1.toNat 0)<((c.2.2.1.length:Nat):Int))/\(0<=(List.getD (c.2.2.2.2.getD s1.1.1.toNat []) s2.1.1.toNat 0)))))/\((((!(inR (List.getD (c.2.2.2.2.getD s1.1.1.toNat []) s2.1.1.toNat 0) 0 (((c.2.1.length:Nat):Int)-1)))=false)->((s1.1.1<((c.2.1.length:Nat):Int))/\(0<=s1.1.1)))/\((((!(inR (List.getD (c.2.2.2.2.getD s1.1.1.toNat []) s2.1.1.toNat 0) 0 (((c.2.1.length:Nat):Int)-1)))=false)->((s2.1.1<((c.2.2.1.length:Nat):Int))/\(0<=s2.1.1)))/\(cnd ((!(inR (List.getD (c.2.2.2.2.getD s1.1.1.toNat []) s2.1.1.toNat 0) 0 (((c.2.1.length:Nat):Int)-1)))||(!(((c.2.1.getD (Int.toNat (List.getD (c.2.2.2.2.getD s1.1.1.toNat []) s2.1.1.toNat 0)) 0)==(c.2.1.getD s1.1.1.toNat 0))&&((c.2.2.1.getD (Int.toNat (List.getD (c.2.2.2.2.getD s1.1.1.toNat []) s2.1.1.toNat 0)) 0)==(c.2.2.1.getD s2.1.1.toNat 0))))) (K (false,())) (k ((),())))))))))))))))) ((inK .i64 (s1.1.1+1))/\(next1 (((s1.1.1+1),()),()))))))) ((0,()),()))))) (K (true,())))))) ((0,()),())))))) ((0,()),())))))))
theorem agx(c:bq)(hok:ae (okL db.args (c,())))(hpre:ae (db.pre (c,()))):sf c (fun r=>r=db.res (c,())):=by
 simp only[db,okL,T.oks,T.ok,ap,ae,a0e,a0c,a0i]at hok hpre
 try dsimp only[T.den]at hok hpre
 unfold sf;refine⟨by grind[cnd,cj,al,inR],by grind[cnd,cj,al,inR],bc (fun hc=>?_) (fun hc=>⟨by rw[al];have:=hok.2.1.1;grind[cnd,cj,al],bc (fun hd=>?_) (fun hd=>?_)⟩)⟩
 ·simp only[db];rw[amq];intro h;have h1:=h.ob;have h2:=h.m;have h3:=h.lt;have h4:=h.fr;have h5:=h.to;simp only[inR]at hc;grind[cnd,cj,al]
 ·simp only[db];rw[amq];intro h;have h1:=h.li;have h2:=h.ids;have h3:=h.lc;grind[cnd,cj,al]
 simp only[inR,a2a,a2d,a0a,a04,a2j,a1j]at hc hd;obtain⟨⟨⟨⟨hob,hm⟩,hlt⟩,hfr⟩,hto⟩:=hc;obtain⟨⟨hli,hids⟩,hlc⟩:=hd;have bad:¬ShapeP c->(false,())=db.res (c,()):=fun h=>by simp only[db];rw[amq h]
 refine ld (n:=c.2.2.2.1.length) (fun x=>∀y:Int,0<=y->y<x->c.2.1.getD (c.2.2.2.1.getD y.toNat 0).toNat 0=y/\c.2.2.1.getD (c.2.2.2.1.getD y.toNat 0).toNat 0=y) (by omega) (by intro y h0 h1;omega) ?_ ?_
 ·intro x next h0 h1 hP hn hin
  have hb:=kt.1 hids x h0 h1
  try dsimp only
  refine aq (fun _=>⟨h0,h1,hb.1,hb.2,by omega,bc (fun hx=>bad fun h=>?_) (fun hx=>?_)⟩) (fun h=>absurd h1 h)
  ·have:=h.idt x h0 (by omega);rw[this.1,this.2]at hx;simp at hx
  ·simp only[a2d,a0a,a0s]at hx;refine⟨by rw[al];(try dsimp only);omega,hn fun y y0 y1=>?_⟩;by_cases e:y=x
   ·rw[e];exact hx
   ·exact hP y y0 (by omega)
 intro next hidt hin
 refine aq (fun h=>absurd h (by dsimp only;omega)) (fun _=>?_);refine ld (n:=c.2.2.2.2.length) (fun f=>∀f':Int,0<=f'->f'<f->(c.2.2.2.2.getD f'.toNat []).length=c.2.1.length/\∀g:Int,0<=g->g<c.2.1.length->ug c f' g=true) (by omega) (by intro y h0 h1;omega) ?_ ?_
 ·intro f next h0 h1 hP hn hin
  try dsimp only
  refine aq (fun _=>⟨h0,h1,bc (fun hx=>bad fun h=>?_) (fun hx=>?_)⟩) (fun h=>absurd h1 h)
  ·have:=h.row f h0 (by omega);rw[this]at hx;simp at hx
  simp only[a1j]at hx;refine ld (n:=(c.2.2.2.2.getD f.toNat []).length) (fun g=>∀g':Int,0<=g'->g'<g->ug c f g'=true) (by omega) (by intro y h0 h1;omega) ?_ ?_
  ·intro g next3 g0 g1 hP3 hn3 hin3
   try dsimp only
   refine aq (fun _=>?_) (fun h=>absurd g1 h);refine g6 (fun _=>ug c f g=true) (fun _ hcell=>⟨by rw[al];(try dsimp only);omega,hn3 fun g' y0 y1=>?_⟩) (fun k hk=>?_)
   ·by_cases e:g'=g
    ·rw[e];exact hcell
    ·exact hP3 g' y0 (by omega)
   have hcell:∀b,ug c f g=b->b=false->¬ShapeP c:=fun b h1 h2 h=>by have:=h.cell f g h0 (by omega) g0 (by omega);rw[h1,h2]at this;cases this
   have hk':=hk ((),());obtain⟨v,hv⟩:∃v,(c.2.2.2.2.getD f.toNat []).getD g.toNat 0=v:=⟨_,rfl⟩;have hR:ug c f g=x8 c f g v:=by unfold ug gi;rw[hv]
   rw[hR]at hk';rw[hR]at hcell;rw[hv];clear hP3 hn3 hP hn hk hR hv hidt hok;refine⟨g0,g1,h0,by omega,g0,by omega,bc (fun ha=>bc (fun hb=>bad ?_) (fun hb=>hk' ?_)) (fun ha=>⟨by rw[al];(try dsimp only);omega,fun hv=>?_,fun _=>⟨by omega,h0⟩,fun _=>⟨by omega,g0⟩,bc (fun hb=>bad ?_) (fun hb=>hk' ?_)⟩)⟩
   ·exact hcell _ rfl (by grind[cnd,cj,al,x8])
   ·grind[cnd,cj,al,x8]
   ·simp only[inR,a2d,a0a,a04]at hv;omega
   ·exact hcell _ rfl (by simp only[inR]at hb;grind[cnd,cj,al,x8])
   ·simp only[inR]at hb;grind[cnd,cj,al,x8]
  ·intro next3 hP3 hin3;refine aq (fun h=>absurd h (by dsimp only;omega)) (fun _=>⟨by rw[al];(try dsimp only);omega,hn fun f' y0 y1=>?_⟩);by_cases e:f'=f
   ·rw[e];exact⟨by omega,fun g g0 g1=>hP3 g g0 (by omega)⟩
   ·exact hP f' y0 (by omega)
 ·intro next2 hP2 hin2;refine aq (fun h=>absurd h (by dsimp only;omega)) (fun _=>?_);simp only[db];rw[bb6 ⟨hob,by omega,by omega,hfr,hto,by omega,hids,by omega,fun x a b=>hidt x a (by omega),fun f a b=>(hP2 f a (by omega)).1,fun f g a b d e=>(hP2 f a (by omega)).2 g d e⟩]
theorem afz:bz Tryz.prog 125 db:=ci (Φ:=agk) (ai sq (ai air (ai tg (ai aif ao)))) bm (by kernel_rfl) (fn:=Tryz.f125) (c:=bg Tryz.f125) (by kernel_rfl) (by kernel_rfl) (by kernel_rfl) db rfl afq (cu [(2,43),(20,15),(4,28),(23,26)]) (by kernel_rfl) (by kernel_rfl) (by kernel_rfl) (by decide) (fun x K=>sf x.1 K) (fun _ _=>by kernel_rfl) (fun x h1 h2=>agx x.1 h1 h2)
theorem ShapeP.frm{c:bq}(h:ShapeP c){f:Int}(h0:0<=f)(h1:f<c.2.1.length):0<=c.2.1.getD f.toNat 0/\c.2.1.getD f.toNat 0<c.1/\0<=c.2.2.1.getD f.toNat 0/\c.2.2.1.getD f.toNat 0<c.1:=by have a:=kt.1 h.fr f h0 h1;have b:=kt.1 h.to f h0 (by have:=h.lt;omega);exact⟨a.1,a.2,b.1,b.2⟩
theorem ShapeP.idn{c:bq}(h:ShapeP c){x:Int}(h0:0<=x)(h1:x<c.1):0<=c.2.2.2.1.getD x.toNat 0/\c.2.2.2.1.getD x.toNat 0<c.2.1.length/\c.2.1.getD (c.2.2.2.1.getD x.toNat 0).toNat 0=x/\c.2.2.1.getD (c.2.2.2.1.getD x.toNat 0).toNat 0=x:=by have a:=kt.1 h.ids x h0 (by have:=h.li;omega);have b:=h.idt x h0 h1;exact⟨a.1,a.2,b.1,b.2⟩
theorem ShapeP.yes{c:bq}(h:ShapeP c){f g:Int}(h0:0<=f)(h1:f<c.2.1.length)(g0:0<=g)(g1:g<c.2.1.length)(e:c.2.2.1.getD f.toNat 0=c.2.1.getD g.toNat 0) :
  0<=gi c f g/\gi c f g<c.2.1.length/\c.2.1.getD (gi c f g).toNat 0=c.2.1.getD f.toNat 0/\c.2.2.1.getD (gi c f g).toNat 0=c.2.2.1.getD g.toNat 0:=by
 have:=h.cell f g h0 h1 g0 g1;unfold ug x8 at this;rw[d0 e]at this;simpa using this
theorem ShapeP.no{c:bq}(h:ShapeP c){f g:Int}(h0:0<=f)(h1:f<c.2.1.length)(g0:0<=g)(g1:g<c.2.1.length)(e:c.2.2.1.getD f.toNat 0≠c.2.1.getD g.toNat 0):gi c f g=-1:=by have:=h.cell f g h0 h1 g0 g1;unfold ug x8 at this;rw[ds e]at this;simpa using this
theorem ShapeP.comp{c:bq}(h:ShapeP c){f g:Int}(h0:0<=f)(h1:f<c.2.1.length)(g0:0<=g)(g1:g<c.2.1.length):0<=gi c f g<->c.2.2.1.getD f.toNat 0=c.2.1.getD g.toNat 0:=by
 constructor
 ·intro h2;by_cases e:c.2.2.1.getD f.toNat 0=c.2.1.getD g.toNat 0
  ·exact e
  ·have:=h.no h0 h1 g0 g1 e;omega
 ·intro e;exact (h.yes h0 h1 g0 g1 e).1
def uj(c:bq)(f:Int):Option (Int×Int×Int×Int):=if gi c (c.2.2.2.1.getD (c.2.1.getD f.toNat 0).toNat 0) f≠f\/gi c f (c.2.2.2.1.getD (c.2.2.1.getD f.toNat 0).toNat 0)≠f then some (1,f,0,0)else none
def w8(c:bq)(f g h:Int):Option (Int×Int×Int×Int):=if c.2.2.1.getD g.toNat 0=c.2.1.getD h.toNat 0/\gi c (gi c f g) h≠gi c f (gi c g h)then some (2,f,g,h)else none
def ur(c:bq)(f g:Int):Option (Int×Int×Int×Int):=if c.2.2.1.getD f.toNat 0=c.2.1.getD g.toNat 0 then lk (w8 c f g) c.2.1.length 0 else none
def xz(c:bq)(f:Int):Option (Int×Int×Int×Int):=lk (ur c f) c.2.1.length 0
def oh(c:bq):Int×Int×Int×Int:=orR (lk (uj c) c.2.1.length 0) (orR (lk (xz c) c.2.1.length 0) (0,0,0,0))
def gh:Ct:=⟨[(.pt gp)],[false],fun x=>[ShapeP x.1],[(false,(.fz (.int .i64))),(false,(.fz (.int .i64))),(false,(.fz (.int .i64))),(false,(.fz (.int .i64)))],fun x=>((oh x.1).1,(oh x.1).2.1,(oh x.1).2.2.1,(oh x.1).2.2.2,()),false,none⟩
def ahu:Ann:=(.s .n (.s .n (.s (.s .n (.l [(7,(.d (.int .i64)))] [] [0,6] .n)) (.s (.s .n (.l [(8,(.d (.int .i64)))] [] [0,6] (.s .n (.s (.s .n (.l [(9,(.d (.int .i64)))] [] [0,6,8] (.s .n (.s (.j [] [] [0,6,8,9] (.s .n (.s .n (.l [(10,(.d (.int .i64)))] [] [0,6,8,9] .n)))) .n)))) .n)))) .n))))
def ahw:FuncId->Option Ct:=lkp [(104,fp),(79,iw)]
def ut(c:bq)(K:Int×Int×Int×Int×Unit->Prop):Prop:=(be (S:=bpd) (fun s=>(fun next=>((inK .i64 s.1.1)->(cnd (decide (s.1.1<((c.2.1.length:Nat):Int))) ((0<=s.1.1)/\((s.1.1<((c.2.1.length:Nat):Int))/\((0<=(c.2.1.getD s.1.1.toNat 0))/\(((c.2.1.getD s.1.1.toNat 0)<((c.2.2.2.1.length:Nat):Int))/\((0<=(c.2.2.2.1.getD (Int.toNat (c.2.1.getD s.1.1.toNat 0)) 0))/\(((c.2.2.2.1.getD (Int.toNat (c.2.1.getD s.1.1.toNat 0)) 0)<((c.2.2.2.2.length:Nat):Int))/\((0<=s.1.1)/\((s.1.1<(((List.length (c.2.2.2.2.getD (Int.toNat (c.2.2.2.1.getD (Int.toNat (c.2.1.getD s.1.1.toNat 0)) 0)) [])):Nat):Int))/\(((((gi c (c.2.2.2.1.getD (Int.toNat (c.2.1.getD s.1.1.toNat 0)) 0) s.1.1) != s.1.1)=false)->((s.1.1<((c.2.2.1.length:Nat):Int))/\(0<=s.1.1)))/\(((((gi c (c.2.2.2.1.getD (Int.toNat (c.2.1.getD s.1.1.toNat 0)) 0) s.1.1) != s.1.1)=false)->(((c.2.2.1.getD s.1.1.toNat 0)<((c.2.2.2.1.length:Nat):Int))/\(0<=(c.2.2.1.getD s.1.1.toNat 0))))/\(((((gi c (c.2.2.2.1.getD (Int.toNat (c.2.1.getD s.1.1.toNat 0)) 0) s.1.1) != s.1.1)=false)->((s.1.1<((c.2.2.2.2.length:Nat):Int))/\((0<=(c.2.2.2.1.getD (Int.toNat (c.2.2.1.getD s.1.1.toNat 0)) 0))/\(((c.2.2.2.1.getD (Int.toNat (c.2.2.1.getD s.1.1.toNat 0)) 0)<(((List.length (c.2.2.2.2.getD s.1.1.toNat [])):Nat):Int))/\(0<=s.1.1)))))/\(cnd (((gi c (c.2.2.2.1.getD (Int.toNat (c.2.1.getD s.1.1.toNat 0)) 0) s.1.1) != s.1.1)||((gi c s.1.1 (c.2.2.2.1.getD (Int.toNat (c.2.2.1.getD s.1.1.toNat 0)) 0)) != s.1.1)) (K (1,(s.1.1,(0,(0,()))))) ((inK .i64 (s.1.1+1))/\(next (((s.1.1+1),()),()))))))))))))))) (be (S:=bpd) (fun s1=>(fun next1=>((inK .i64 s1.1.1)->(cnd (decide (s1.1.1<((c.2.1.length:Nat):Int))) (be (S:=bpd) (fun s2=>(fun next2=>((inK .i64 s2.1.1)->(cnd (decide (s2.1.1<((c.2.1.length:Nat):Int))) (ic (S:=(Unit×Unit)) (fun s3=>((inK .i64 (s2.1.1+1))/\(next2 (((s2.1.1+1),()),())))) (fun k=>((0<=s1.1.1)/\((s1.1.1<((c.2.2.2.2.length:Nat):Int))/\((0<=s2.1.1)/\((s2.1.1<(((List.length (c.2.2.2.2.getD s1.1.1.toNat [])):Nat):Int))/\(cnd (decide ((gi c s1.1.1 s2.1.1)<0)) (k ((),())) (be (S:=bpd) (fun s3=>(fun next3=>((inK .i64 s3.1.1)->(cnd (decide (s3.1.1<((c.2.1.length:Nat):Int))) ((0<=s2.1.1)/\((s2.1.1<((c.2.2.2.2.length:Nat):Int))/\((0<=s3.1.1)/\((s3.1.1<(((List.length (c.2.2.2.2.getD s2.1.1.toNat [])):Nat):Int))/\((((decide (0<=(gi c s2.1.1 s3.1.1)))=true)->((s1.1.1<((c.2.2.2.2.length:Nat):Int))/\((0<=s2.1.1)/\((s2.1.1<(((List.length (c.2.2.2.2.getD s1.1.1.toNat [])):Nat):Int))/\(0<=s1.1.1)))))/\((((decide (0<=(gi c s2.1.1 s3.1.1)))=true)->(((gi c s1.1.1 s2.1.1)<((c.2.2.2.2.length:Nat):Int))/\((0<=s3.1.1)/\((s3.1.1<(((List.length (c.2.2.2.2.getD (Int.toNat (gi c s1.1.1 s2.1.1)) [])):Nat):Int))/\(0<=(gi c s1.1.1 s2.1.1))))))/\((((decide (0<=(gi c s2.1.1 s3.1.1)))=true)->((s2.1.1<((c.2.2.2.2.length:Nat):Int))/\((0<=s3.1.1)/\((s3.1.1<(((List.length (c.2.2.2.2.getD s2.1.1.toNat [])):Nat):Int))/\(0<=s2.1.1)))))/\((((decide (0<=(gi c s2.1.1 s3.1.1)))=true)->((s1.1.1<((c.2.2.2.2.length:Nat):Int))/\((0<=(gi c s2.1.1 s3.1.1))/\(((gi c s2.1.1 s3.1.1)<(((List.length (c.2.2.2.2.getD s1.1.1.toNat [])):Nat):Int))/\(0<=s1.1.1)))))/\(cnd ((decide (0<=(gi c s2.1.1 s3.1.1)))&&((gi c (gi c s1.1.1 s2.1.1) s3.1.1) != (gi c s1.1.1 (gi c s2.1.1 s3.1.1)))) (K (2,(s1.1.1,(s2.1.1,(s3.1.1,()))))) ((inK .i64 (s3.1.1+1))/\(next3 (((s3.1.1+1),()),())))))))))))) (k ((),())))))) ((0,()),()))))))))) ((inK .i64 (s1.1.1+1))/\(next1 (((s1.1.1+1),()),()))))))) ((0,()),())) (K (0,(0,(0,(0,()))))))))) ((0,()),())))))) ((0,()),()))
theorem aid(c:bq)(hok:ae (okL gh.args (c,())))(hpre:ae (gh.pre (c,()))):ut c (fun r=>r=gh.res (c,())):=by
 simp only[gh,okL,T.oks,T.ok,ap,ae,a0e,a0c,a0i]at hok hpre
 try dsimp only[T.den]at hok hpre
 unfold ut;have S:ShapeP c:=hpre;have hlt:=S.lt;have hli:=S.li;have hlc:=S.lc;have hmm:=S.m;have resq:∀a b d e,oh c=(a,b,d,e)->(a,b,d,e,())=gh.res (c,()):=fun a b d e h=>by simp only[gh,h]
 refine ld (n:=c.2.1.length) (fun f=>lk (uj c) c.2.1.length 0=lk (uj c) ((c.2.1.length:Int)-f).toNat f) (by omega) adj ?_ ?_
 ·intro f next h0 h1 hP hn hin
  try dsimp only
  obtain⟨a1,a2,a3,a4⟩:=S.frm h0 h1;obtain⟨b1,b2,_,_⟩:=S.idn a1 a2;obtain⟨d1,d2,_,_⟩:=S.idn a3 a4;have r1:=S.row _ b1 b2;have r2:=S.row f h0 h1;refine aq (fun _=>⟨h0,h1,by omega,by omega,by omega,by omega,h0,by omega,fun _=>by omega,fun _=>by omega,fun _=>by omega,bc (fun hx=>resq _ _ _ _ ?_) (fun hx=>⟨by rw[al];(try dsimp only);omega,hn ?_⟩)⟩) (fun h=>absurd h1 h)
  ·have:uj c f=some (1,f,0,0):=by unfold uj;rw[d0];simpa using hx
   unfold oh;rw[hP,adl h1 this];rfl
  ·have:uj c f=none:=by unfold uj;rw[ds];simpa using hx
   rw[hP,ada h1 this]
 intro next hI hin
 rw[ac4]at hI;refine aq (fun h=>absurd h (by dsimp only;omega)) (fun _=>?_);have hF:oh c=orR (lk (xz c) c.2.1.length 0) (0,0,0,0):=by unfold oh;rw[hI];rfl
 refine ld (n:=c.2.1.length) (fun f=>lk (xz c) c.2.1.length 0=lk (xz c) ((c.2.1.length:Int)-f).toNat f) (by omega) adj ?_ ?_
 ·intro f next h0 h1 hP hn hin
  try dsimp only
  refine aq (fun _=>?_) (fun h=>absurd h1 h);have r1:=S.row f h0 h1;refine ld (n:=c.2.1.length) (fun g=>xz c f=lk (ur c f) ((c.2.1.length:Int)-g).toNat g) (by omega) adj ?_ ?_
  ·intro g next3 g0 g1 hP3 hn3 hin3
   try dsimp only
   refine aq (fun _=>?_) (fun h=>absurd g1 h);have r2:=S.row g g0 g1;refine g6 (fun _=>ur c f g=none) (fun _ hG=>⟨by rw[al];(try dsimp only);omega,hn3 (by rw[hP3,ada g1 hG])⟩) (fun k hk=>?_);have hk':=hk ((),());refine⟨by omega,by omega,by omega,by omega,aq (fun hx=>hk' ?_) (fun hx=>?_)⟩
   ·unfold ur;rw[ds];intro e;have:=(S.comp h0 h1 g0 g1).2 e;omega
   have hfg:=(S.comp h0 h1 g0 g1).1 (by omega);obtain⟨y1,y2,_,_⟩:=S.yes h0 h1 g0 g1 hfg;refine ld (n:=c.2.1.length) (fun h=>ur c f g=lk (w8 c f g) ((c.2.1.length:Int)-h).toNat h) (by omega) (by unfold ur;rw[d0 hfg];exact adj) ?_ ?_
   ·intro h next4 i0 i1 hP4 hn4 hin4
    try dsimp only
    refine aq (fun _=>?_) (fun h=>absurd i1 h);have r3:=S.row _ y1 y2;have cgh:=S.comp g0 g1 i0 i1;have ygh:=@ShapeP.yes c S g h g0 g1 i0 i1;refine⟨by omega,by omega,by omega,by omega,fun _=>by omega,fun _=>by omega,fun _=>by omega,fun he=>?_,bc (fun hx=>resq _ _ _ _ ?_) (fun hx=>⟨by rw[al];(try dsimp only);omega,hn4 ?_⟩)⟩
    ·have:=ygh (cgh.1 (by simpa using he));omega
    ·have:w8 c f g h=some (2,f,g,h):=by unfold w8;rw[d0];rw[←cgh];simpa using hx
     have e1:ur c f g=some (2,f,g,h):=by rw[hP4,adl i1 this]
     have e2:xz c f=some (2,f,g,h):=by rw[hP3,adl g1 e1]
     rw[hF,hP,adl h1 e2];rfl
    ·have:w8 c f g h=none:=by unfold w8;rw[ds];rw[←cgh];simpa using hx
     rw[hP4,ada i1 this]
   ·intro next4 hP4 hin4;rw[ac4]at hP4;exact aq (fun h=>absurd h (by dsimp only;omega)) (fun _=>hk' hP4)
  ·intro next3 hP3 hin3;rw[ac4]at hP3;exact aq (fun h=>absurd h (by dsimp only;omega)) (fun _=>⟨by rw[al];(try dsimp only);omega,hn (by rw[hP,ada h1 hP3])⟩)
 ·intro next2 hP2 hin2;rw[ac4]at hP2;refine aq (fun h=>absurd h (by dsimp only;omega)) (fun _=>resq _ _ _ _ ?_);rw[hF,hP2];rfl
theorem ahx:bz Tryz.prog 126 gh:=ci (Φ:=ahw) (ai sq (ai zv ao)) bm (by kernel_rfl) (fn:=Tryz.f126) (c:=bg Tryz.f126) (by kernel_rfl) (by kernel_rfl) (by kernel_rfl) gh rfl ahu (cu [(5,38)]) (by kernel_rfl) (by kernel_rfl) (by kernel_rfl) (by decide) (fun x K=>ut x.1 K) (fun _ _=>by kernel_rfl) (fun x h1 h2=>aid x.1 h1 h2)
def m8:Ct:=⟨[(.sl (.int .i64))],[false],fun x=>[x.1.length<=1099511627776],[(false,(.sl (.fz (.int .i64))))],fun x=>(x.1,()),false,none⟩
def ad9(list:List Int)(K:(List Int)×Unit->Prop):Prop:=((dz 0 list.length 8)/\(K (list,())))
theorem av1(list:List Int)(hok:ae (okL m8.args (list,())))(hpre:ae (m8.pre (list,()))):ad9 list (fun r=>r=m8.res (list,())):=by
 simp only[m8,okL,T.oks,T.ok,ap,ae,a0e,a0c,a0i]at hok hpre
 try dsimp only[T.den]at hok hpre
 unfold ad9;have hl:list.length<=1099511627776:=hpre;exact⟨da (by omega),rfl⟩
theorem abu:bz Tryz.prog 58 m8:=ci (Φ:=lkp []) ao bm (by kernel_rfl) (fn:=Tryz.f58) (c:=bg Tryz.f58) (by kernel_rfl) (by kernel_rfl) (by kernel_rfl) m8 rfl .n (cu []) (by kernel_rfl) (by kernel_rfl) (by kernel_rfl) (by decide) (fun x K=>ad9 x.1 K) (fun _ _=>by kernel_rfl) (fun x h1 h2=>av1 x.1 h1 h2)
structure PthsR (l:List ac):Prop where
 n:l.length<=1000000
 e:∀p∈l,p.2.length<=1000000
def am1(c:bq)(ed:List Int):Int->List Int->Int
 |h,[]=>h
 |h,e::r=>am1 c ed (gi c h (ed.getD e.toNat 0)) r
def kv(c:bq)(ed:List Int)(p:ac):Int:=am1 c ed (c.2.2.2.1.getD p.1.toNat 0) p.2
def axc(c:bq)(ed:List Int):Int->List Int->Prop
 |h,[]=>True
 |h,e::r=>(0<=e/\e<ed.length)/\(0<=ed.getD e.toNat 0/\ed.getD e.toNat 0<c.2.1.length)/\c.2.2.1.getD h.toNat 0=c.2.1.getD (ed.getD e.toNat 0).toNat 0/\axc c ed (gi c h (ed.getD e.toNat 0)) r
structure AroP (t:rl) (p:ac):Prop where
 s:ShapeP t.1
 p0:0<=p.1
 p1:p.1<t.1.1
 c:axc t.1 t.2.2 (t.1.2.2.2.1.getD p.1.toNat 0) p.2
def km:Ct:=⟨[aib,PathT],[true,true],fun x=>[AroP x.1 x.2.1],[(false,(.fz (.int .i64)))],fun x=>(kv x.1.1 x.1.2.2 x.2.1,()),false,none⟩
def apt:Ann:=(.s .n (.s .n (.s (.s .n (.l [(5,(.d (.int .i64))),(6,(.d (.int .i64)))] [] [2,3] .n)) .n)))
def aai(t:rl)(p:ac)(K:Int×Unit->Prop):Prop:=((0<=p.1)/\((p.1<((t.1.2.2.2.1.length:Nat):Int))/\(be (S:=bph) (fun s=>(fun next=>((inK .i64 s.1.1)->((inK .i64 s.1.2.1)->(cnd (decide (s.1.2.1<((p.2.length:Nat):Int))) ((0<=s.1.1)/\((s.1.1<((t.1.2.2.2.2.length:Nat):Int))/\((0<=s.1.2.1)/\((s.1.2.1<((p.2.length:Nat):Int))/\((0<=(p.2.getD s.1.2.1.toNat 0))/\(((p.2.getD s.1.2.1.toNat 0)<((t.2.2.length:Nat):Int))/\((0<=(t.2.2.getD (Int.toNat (p.2.getD s.1.2.1.toNat 0)) 0))/\(((t.2.2.getD (Int.toNat (p.2.getD s.1.2.1.toNat 0)) 0)<(((List.length (t.1.2.2.2.2.getD s.1.1.toNat [])):Nat):Int))/\((inK .i64 (s.1.2.1+1))/\(next (((List.getD (t.1.2.2.2.2.getD s.1.1.toNat []) (Int.toNat (t.2.2.getD (Int.toNat (p.2.getD s.1.2.1.toNat 0)) 0)) 0),((s.1.2.1+1),())),()))))))))))) (K (s.1.1,()))))))) (((t.1.2.2.2.1.getD p.1.toNat 0),(0,())),()))))
theorem aq0(t:rl)(p:ac)(hok:ae (okL km.args (t,p,())))(hpre:ae (km.pre (t,p,()))):aai t p (fun r=>r=km.res (t,p,())):=by
 simp only[km,okL,T.oks,T.ok,ap,ae,a0e,a0c,a0i]at hok hpre
 try dsimp only[T.den]at hok hpre
 unfold aai;obtain⟨S,p0,p1,hc⟩:=hpre;have hid:=S.idn p0 p1;have hlc:=S.lc;have hli:=S.li;have hpl:p.2.length<=140737488355328:=by have:=hok.2.2.2.2.2.2.2.2.1;rw[cj]at this;exact this
 simp only[km,kv];refine⟨p0,by omega,?_⟩;generalize t.1.2.2.2.1.getD p.1.toNat 0=h0 at *;refine br (fun (q:bph)=>0<=q.1.2.1/\q.1.2.1<=p.2.length/\0<=q.1.1/\q.1.1<t.1.2.1.length/\axc t.1 t.2.2 q.1.1 (p.2.drop q.1.2.1.toNat)/\am1 t.1 t.2.2 h0 p.2=am1 t.1 t.2.2 q.1.1 (p.2.drop q.1.2.1.toNat)) (fun (q:bph)=>(p.2.length-q.1.2.1).toNat) ?_ ⟨by simp,by simp,hid.1,hid.2.1,hc,rfl⟩;rintro⟨⟨h,i,_⟩,_⟩ next ⟨i0,i1,a0,a1,a2,a3⟩ hnx
 intros
 try dsimp only at i0 i1 a0 a1 a2 a3 hnx⊢
 refine aq (fun hi=>?_) (fun hi=>?_)
 ·rw[ny p.2 0 i0 hi]at a2 a3;obtain⟨b1,b2,b3,b4⟩:=a2;have hr:=S.row h a0 a1;have y:=S.yes a0 a1 b2.1 b2.2 b3;refine⟨a0,by omega,i0,hi,b1.1,b1.2,b2.1,by rw[hr];exact b2.2,by rw[al];(try dsimp only);omega,hnx _ ⟨by dsimp only;omega,by dsimp only;omega,y.1,y.2.1,b4,?_⟩ (by dsimp only;omega)⟩;rw[a3];rfl
 ·rw[a3,qr p.2 (by omega)];rfl
theorem ago:bz Tryz.prog 49 km:=ci (Φ:=lkp []) ao bm (by kernel_rfl) (fn:=Tryz.f49) (c:=bg Tryz.f49) (by kernel_rfl) (by kernel_rfl) (by kernel_rfl) km rfl apt (cu [(5,15)]) (by kernel_rfl) (by kernel_rfl) (by kernel_rfl) (by decide) (fun x K=>aai x.1 x.2.1 K) (fun _ _=>by kernel_rfl) (fun x h1 h2=>aq0 x.1 x.2.1 h1 h2)
def fo:Ct:=⟨[(.pt ko),PathT],[false,true],fun x=>[AroP (x.1.2.1,(x.1.2.2.2,x.1.2.2.1)) x.2.1],[(false,(.fz (.int .i64)))],fun x=>(kv x.1.2.1 x.1.2.2.1 x.2.1,()),false,none⟩
def agw:Ann:=(.s .n (.s .n (.s (.s .n (.l [(5,(.d (.int .i64))),(20,(.d (.int .i64)))] [] [0,18,19] .n)) .n)))
def t7(k:T.den ko)(p:ac)(K:Int×Unit->Prop):Prop:=((0<=p.1)/\((p.1<((k.2.1.2.2.2.1.length:Nat):Int))/\(be (S:=bph) (fun s=>(fun next=>((inK .i64 s.1.1)->((inK .i64 s.1.2.1)->(cnd (decide (s.1.2.1<((p.2.length:Nat):Int))) ((0<=s.1.2.1)/\((s.1.2.1<((p.2.length:Nat):Int))/\((0<=(p.2.getD s.1.2.1.toNat 0))/\(((p.2.getD s.1.2.1.toNat 0)<((k.2.2.1.length:Nat):Int))/\((0<=s.1.1)/\((s.1.1<((k.2.1.2.2.2.2.length:Nat):Int))/\((0<=(k.2.2.1.getD (Int.toNat (p.2.getD s.1.2.1.toNat 0)) 0))/\(((k.2.2.1.getD (Int.toNat (p.2.getD s.1.2.1.toNat 0)) 0)<(((List.length (k.2.1.2.2.2.2.getD s.1.1.toNat [])):Nat):Int))/\((inK .i64 (s.1.2.1+1))/\(next (((gi k.2.1 s.1.1 (k.2.2.1.getD (Int.toNat (p.2.getD s.1.2.1.toNat 0)) 0)),((s.1.2.1+1),())),()))))))))))) (K (s.1.1,()))))))) (((k.2.1.2.2.2.1.getD p.1.toNat 0),(0,())),()))))
theorem ahj(k:T.den ko)(p:ac)(hok:ae (okL fo.args (k,p,())))(hpre:ae (fo.pre (k,p,()))):t7 k p (fun r=>r=fo.res (k,p,())):=by
 simp only[fo,okL,T.oks,T.ok,ap,ae,a0e,a0c,a0i]at hok hpre
 try dsimp only[T.den]at hok hpre
 unfold t7;obtain⟨S,p0,p1,hc⟩:=hpre
 try dsimp only at S p0 p1 hc
 have hid:=S.idn p0 p1;have hlc:=S.lc;have hli:=S.li;have hpl:p.2.length<=140737488355328:=by have:=hok.2.2.2.2.2.2.2.2.2.2.2.2.2.1;rw[cj]at this;exact this
 clear hok;simp only[fo,kv];refine⟨p0,by omega,?_⟩;generalize k.2.1.2.2.2.1.getD p.1.toNat 0=h0 at *;refine br (fun (q:bph)=>0<=q.1.2.1/\q.1.2.1<=p.2.length/\0<=q.1.1/\q.1.1<k.2.1.2.1.length/\axc k.2.1 k.2.2.1 q.1.1 (p.2.drop q.1.2.1.toNat)/\am1 k.2.1 k.2.2.1 h0 p.2=am1 k.2.1 k.2.2.1 q.1.1 (p.2.drop q.1.2.1.toNat)) (fun (q:bph)=>(p.2.length-q.1.2.1).toNat) ?_ ⟨by simp,by simp,hid.1,hid.2.1,hc,rfl⟩;rintro⟨⟨h,i,_⟩,_⟩ next ⟨i0,i1,a0,a1,a2,a3⟩ hnx
 intros
 try dsimp only at i0 i1 a0 a1 a2 a3 hnx⊢
 refine aq (fun hi=>?_) (fun hi=>?_)
 ·rw[ny p.2 0 i0 hi]at a2 a3;obtain⟨b1,b2,b3,b4⟩:=a2;have hr:=S.row h a0 a1;have y:=S.yes a0 a1 b2.1 b2.2 b3;refine⟨i0,hi,b1.1,b1.2,a0,by omega,b2.1,by rw[hr];exact b2.2,by rw[al];(try dsimp only);omega,hnx _ ⟨by dsimp only;omega,by dsimp only;omega,y.1,y.2.1,b4,?_⟩ (by dsimp only;omega)⟩;rw[a3];rfl
 ·rw[a3,qr p.2 (by omega)];rfl
theorem ym:bz Tryz.prog 51 fo:=ci (Φ:=lkp [(79,iw)]) (ai zv ao) bm (by kernel_rfl) (fn:=Tryz.f51) (c:=bg Tryz.f51) (by kernel_rfl) (by kernel_rfl) (by kernel_rfl) fo rfl agw (cu [(1,7),(5,511)]) (by kernel_rfl) (by kernel_rfl) (by kernel_rfl) (by decide) (fun x K=>t7 x.1 x.2.1 K) (fun _ _=>by kernel_rfl) (fun x h1 h2=>ahj x.1 x.2.1 h1 h2)
def bf(s:ab):Int->List Int->Int×Bool
 |n,[]=>(n,true)
 |n,e::r=>if inR e 0 ((s.2.1.length:Int)-1)=true/\s.2.1.getD e.toNat 0=n then bf s (s.2.2.1.getD e.toNat 0) r else (0,false)
def gq:Ct:=⟨[(.pt SchemaT),(.int .i64),(.sl (.int .i64))],[false,false,false],fun x=>[x.1.2.1.length<=x.1.2.2.1.length],[(false,(.fz (.int .i64))),(false,(.fz .bool))],fun x=>((bf x.1 x.2.1 x.2.2.1).1,(bf x.1 x.2.1 x.2.2.1).2,()),false,none⟩
def aih:Ann:=(.s .n (.s (.s .n (.l [(1,(.d (.int .i64))),(12,(.d (.int .i64)))] [] [0,10,11] .n)) .n))
def vv(s:ab)(node:Int)(edges:List Int)(K:Int×Bool×Unit->Prop):Prop:=(be (S:=bph) (fun s1=>(fun next=>((inK .i64 s1.1.1)->((inK .i64 s1.1.2.1)->(cnd (decide (s1.1.2.1<((edges.length:Nat):Int))) ((0<=s1.1.2.1)/\((s1.1.2.1<((edges.length:Nat):Int))/\((inK .i64 (((s.2.1.length:Nat):Int)-1))/\((((!(inR (edges.getD s1.1.2.1.toNat 0) 0 (((s.2.1.length:Nat):Int)-1)))=false)->(((edges.getD s1.1.2.1.toNat 0)<((s.2.1.length:Nat):Int))/\(0<=(edges.getD s1.1.2.1.toNat 0))))/\(cnd ((!(inR (edges.getD s1.1.2.1.toNat 0) 0 (((s.2.1.length:Nat):Int)-1)))||((s.2.1.getD (Int.toNat (edges.getD s1.1.2.1.toNat 0)) 0) != s1.1.1)) (K (0,(false,()))) ((0<=(edges.getD s1.1.2.1.toNat 0))/\(((edges.getD s1.1.2.1.toNat 0)<((s.2.2.1.length:Nat):Int))/\((inK .i64 (s1.1.2.1+1))/\(next (((s.2.2.1.getD (Int.toNat (edges.getD s1.1.2.1.toNat 0)) 0),((s1.1.2.1+1),())),())))))))))) (K (s1.1.1,(true,())))))))) ((node,(0,())),()))
theorem ajc(s:ab)(node:Int)(edges:List Int)(hok:ae (okL gq.args (s,node,edges,())))(hpre:ae (gq.pre (s,node,edges,()))):vv s node edges (fun r=>r=gq.res (s,node,edges,())):=by
 simp only[gq,okL,T.oks,T.ok,ap,ae,a0e,a0c,a0i]at hok hpre
 try dsimp only[T.den]at hok hpre
 unfold vv;refine br (fun (s1:bph)=>0<=s1.1.2.1/\s1.1.2.1<=edges.length/\bf s node edges=bf s s1.1.1 (edges.drop s1.1.2.1.toNat)) (fun (s1:bph)=>(edges.length-s1.1.2.1).toNat) ?_ (by simp);rintro⟨⟨nd,i,_⟩,_⟩ next ⟨h0,h1,h2⟩ hn ha hin
 simp only at h0 h1 h2 hn⊢;refine aq (fun hc=>?_) (fun hc=>?_)
 ·rw[ny edges 0 h0 hc]at h2;simp only[bf]at h2;generalize edges.getD i.toNat 0=e at *
  grind[cnd,cj,al,gq,inR]
 ·rw[qr edges (by omega)]at h2;simp[bf,h2,gq]
theorem ai8:bz Tryz.prog 91 gq:=ci (Φ:=lkp [(72,iq)]) (ai tg ao) bm (by kernel_rfl) (fn:=Tryz.f91) (c:=bg Tryz.f91) (by kernel_rfl) (by kernel_rfl) (by kernel_rfl) gq rfl aih (cu []) (by kernel_rfl) (by kernel_rfl) (by kernel_rfl) (by decide) (fun x K=>vv x.1 x.2.1 x.2.2.1 K) (fun _ _=>by kernel_rfl) (fun x h1 h2=>ajc x.1 x.2.1 x.2.2.1 h1 h2)
def aw(s:ab)(p:ac):Int×Bool:=if inR p.1 0 (s.1-1)=true/\p.2.length<=6 then bf s p.1 p.2 else (0,false)
def d4:Ct:=⟨[(.pt SchemaT),PathT],[false,true],fun x=>[x.1.2.1.length<=x.1.2.2.1.length,inK .i64 (x.1.1-1)],[(false,(.fz (.int .i64))),(false,(.fz .bool))],fun x=>((aw x.1 x.2.1).1,(aw x.1 x.2.1).2,()),false,none⟩
def ami:FuncId->Option Ct:=lkp [(91,gq),(72,iq)]
def yr(s:ab)(p:ac)(K:Int×Bool×Unit->Prop):Prop:=((inK .i64 (s.1-1))/\(cnd ((!(inR p.1 0 (s.1-1)))||(decide (6<((p.2.length:Nat):Int)))) (K (0,(false,()))) ((s.2.1.length<=s.2.2.1.length)/\(K ((bf s p.1 p.2).1,((bf s p.1 p.2).2,()))))))
theorem an1(s:ab)(p:ac)(hok:ae (okL d4.args (s,p,())))(hpre:ae (d4.pre (s,p,()))):yr s p (fun r=>r=d4.res (s,p,())):=by
 simp only[d4,okL,T.oks,T.ok,ap,ae,a0e,a0c,a0i]at hok hpre
 try dsimp only[T.den]at hok hpre
 unfold yr;simp only[d4,aw]
 grind[cnd,cj,al]
theorem lq:bz Tryz.prog 74 d4:=ci (Φ:=ami) (ai ai8 (ai tg ao)) bm (by kernel_rfl) (fn:=Tryz.f74) (c:=bg Tryz.f74) (by kernel_rfl) (by kernel_rfl) (by kernel_rfl) d4 rfl .n (cu [(1,15)]) (by kernel_rfl) (by kernel_rfl) (by kernel_rfl) (by decide) (fun x K=>yr x.1 x.2.1 K) (fun _ _=>by kernel_rfl) (fun x h1 h2=>an1 x.1 x.2.1 h1 h2)
def bcv(s:ab)(p q:ac):Bool:=(aw s p).2&&(aw s q).2&&decide (p.1=q.1)&&decide ((aw s p).1=(aw s q).1)
def u7(s:ab):List ac->List ac->Bool
 |p::l,q::r=>bcv s p q&&u7 s l r
 |_,_=>true
def az(s:ab):Bool:=inR s.1 0 8&&decide (s.2.1.length<=8)&&decide (s.2.2.1.length=s.2.1.length)&&bh s.2.1 s.1&&bh s.2.2.1 s.1&&decide (s.2.2.2.1.length<=8)&&decide (s.2.2.2.2.length=s.2.2.2.1.length)&&u7 s s.2.2.2.1 s.2.2.2.2
def dg:Ct:=⟨[(.pt SchemaT)],[false],fun x=>[],[(false,(.fz .bool))],fun x=>(az x.1,()),false,none⟩
def agt:Ann:=(.s .n (.s .n (.s .n (.s (.s .n (.l [(85,(.d (.int .i64)))] [] [0,83,84] .n)) .n))))
def agy:FuncId->Option Ct:=lkp [(74,d4),(72,iq),(73,ly)]
def tu(s:ab)(K:Bool×Unit->Prop):Prop:=((((((!(inR s.1 0 8))||(decide (8<((s.2.1.length:Nat):Int))))||(((s.2.2.1.length:Nat):Int) != ((s.2.1.length:Nat):Int)))=false)->(inK .i64 (s.1-1)))/\(((((((!(inR s.1 0 8))||(decide (8<((s.2.1.length:Nat):Int))))||(((s.2.2.1.length:Nat):Int) != ((s.2.1.length:Nat):Int)))||(!(bh s.2.1 s.1)))=false)->(inK .i64 (s.1-1)))/\(cnd (((((!(inR s.1 0 8))||(decide (8<((s.2.1.length:Nat):Int))))||(((s.2.2.1.length:Nat):Int) != ((s.2.1.length:Nat):Int)))||(!(bh s.2.1 s.1)))||(!(bh s.2.2.1 s.1))) (K (false,())) (cnd ((decide (8<((s.2.2.2.1.length:Nat):Int)))||(((s.2.2.2.2.length:Nat):Int) != ((s.2.2.2.1.length:Nat):Int))) (K (false,())) (be (S:=bpd) (fun s1=>(fun next=>((inK .i64 s1.1.1)->(cnd (decide (s1.1.1<((s.2.2.2.1.length:Nat):Int))) ((0<=s1.1.1)/\((s1.1.1<((s.2.2.2.1.length:Nat):Int))/\((0<=s1.1.1)/\((s1.1.1<((s.2.2.2.2.length:Nat):Int))/\((s.2.1.length<=s.2.2.1.length)/\((inK .i64 (s.1-1))/\((s.2.1.length<=s.2.2.1.length)/\((inK .i64 (s.1-1))/\(cnd ((((!(aw s (s.2.2.2.1.getD s1.1.1.toNat (0,[]))).2)||(!(aw s (s.2.2.2.2.getD s1.1.1.toNat (0,[]))).2))||((s.2.2.2.1.getD s1.1.1.toNat (0,[])).1 != (s.2.2.2.2.getD s1.1.1.toNat (0,[])).1))||((aw s (s.2.2.2.1.getD s1.1.1.toNat (0,[]))).1 != (aw s (s.2.2.2.2.getD s1.1.1.toNat (0,[]))).1)) (K (false,())) ((inK .i64 (s1.1.1+1))/\(next (((s1.1.1+1),()),())))))))))))) (K (true,())))))) ((0,()),()))))))
theorem ah6(s:ab)(hok:ae (okL dg.args (s,())))(hpre:ae (dg.pre (s,()))):tu s (fun r=>r=dg.res (s,())):=by
 simp only[dg,okL,T.oks,T.ok,ap,ae,a0e,a0c,a0i]at hok hpre
 try dsimp only[T.den]at hok hpre
 unfold tu;refine⟨by grind[cnd,cj,al,inR],by grind[cnd,cj,al,inR],bc (fun hc=>?_) (fun hc=>bc (fun hd=>?_) (fun hd=>?_))⟩
 ·grind[cnd,cj,al,dg,az]
 ·grind[cnd,cj,al,dg,az]
 have he:az s=u7 s s.2.2.2.1 s.2.2.2.2:=by grind[cnd,cj,al,az]
 simp only[dg,he];simp only[inR,a2a,a2d,a0a,a04,a2j,a1j]at hc hd;refine br (fun (s1:bpd)=>0<=s1.1.1/\s1.1.1<=s.2.2.2.1.length/\u7 s s.2.2.2.1 s.2.2.2.2=u7 s (s.2.2.2.1.drop s1.1.1.toNat) (s.2.2.2.2.drop s1.1.1.toNat)) (fun (s1:bpd)=>(s.2.2.2.1.length-s1.1.1).toNat) ?_ (by simp);rintro⟨⟨i,_⟩,_⟩ next ⟨h0,h1,h2⟩ hn hin
 simp only at h0 h1 h2 hn⊢;refine aq (fun hx=>?_) (fun hx=>?_)
 ·rw[ny s.2.2.2.1 (0,[]) h0 hx,ny s.2.2.2.2 (0,[]) h0 (by omega)]at h2;simp only[u7,bcv]at h2;generalize s.2.2.2.1.getD i.toNat (0,[])=p at *;generalize s.2.2.2.2.getD i.toNat (0,[])=q at *;refine⟨by omega,by omega,by omega,by omega,by omega,by rw[al];(try dsimp only);omega,by omega,by rw[al];(try dsimp only);omega,bc (fun hy=>?_) (fun hy=>?_)⟩
  ·grind[cnd,cj,al]
  ·grind[cnd,cj,al]
 ·rw[qr s.2.2.2.1 (by omega)]at h2;simp[u7,h2]
theorem sj:bz Tryz.prog 45 dg:=ci (Φ:=agy) (ai lq (ai tg (ai aif ao))) bm (by kernel_rfl) (fn:=Tryz.f45) (c:=bg Tryz.f45) (by kernel_rfl) (by kernel_rfl) (by kernel_rfl) dg rfl agt (cu [(1,51),(3,19)]) (by kernel_rfl) (by kernel_rfl) (by kernel_rfl) (by decide) (fun x K=>tu x.1 K) (fun _ _=>by kernel_rfl) (fun x h1 h2=>ah6 x.1 h1 h2)
def m4:Ct:=⟨[(.int .i64),(.int .i64),(.int .i64)],[false,false,false],fun x=>[],[(false,(.fz .bool))],fun x=>(inR x.1 x.2.1 x.2.2.1,()),false,none⟩
def afi(n:Int)(low:Int)(high:Int)(K:Bool×Unit->Prop):Prop:=(K (((decide (low<=n))&&(decide (n<=high))),()))
theorem awy(n:Int)(low:Int)(high:Int)(hok:ae (okL m4.args (n,low,high,())))(hpre:ae (m4.pre (n,low,high,()))):afi n low high (fun r=>r=m4.res (n,low,high,())):=by
 simp only[m4,okL,T.oks,T.ok,ap,ae,a0e,a0c,a0i]at hok hpre
 try dsimp only[T.den]at hok hpre
 unfold afi
 grind[cnd,cj,al,m4,inR]
theorem ad1:bz Tryz.prog 64 m4:=ci (Φ:=lkp []) ao bm (by kernel_rfl) (fn:=Tryz.f64) (c:=bg Tryz.f64) (by kernel_rfl) (by kernel_rfl) (by kernel_rfl) m4 rfl .n (cu []) (by kernel_rfl) (by kernel_rfl) (by kernel_rfl) (by decide) (fun x K=>afi x.1 x.2.1 x.2.2.1 K) (fun _ _=>by kernel_rfl) (fun x h1 h2=>awy x.1 x.2.1 x.2.2.1 h1 h2)
def jh:Ct:=⟨[(.int .i64),(.sl (.int .i64))],[false,false],fun x=>[],[(false,(.fz .bool))],fun x=>(bh x.2.1 x.1,()),false,none⟩
def asz:Ann:=(.s .n (.s (.s .n (.l [(5,(.d (.int .i64)))] [] [0,1] .n)) .n))
def ady(n:Int)(f:List Int)(K:Bool×Unit->Prop):Prop:=(be (S:=bpd) (fun s=>(fun next=>((inK .i64 s.1.1)->(cnd (decide (s.1.1<((f.length:Nat):Int))) ((0<=s.1.1)/\((s.1.1<((f.length:Nat):Int))/\((((decide ((f.getD s.1.1.toNat 0)<0))=false)->((s.1.1<((f.length:Nat):Int))/\(0<=s.1.1)))/\(cnd ((decide ((f.getD s.1.1.toNat 0)<0))||(decide (n<=(f.getD s.1.1.toNat 0)))) (K (false,())) ((inK .i64 (s.1.1+1))/\(next (((s.1.1+1),()),()))))))) (K (true,())))))) ((0,()),()))
theorem avt(n:Int)(f:List Int)(hok:ae (okL jh.args (n,f,())))(hpre:ae (jh.pre (n,f,()))):ady n f (fun r=>r=jh.res (n,f,())):=by
 simp only[jh,okL,T.oks,T.ok,ap,ae,a0e,a0c,a0i]at hok hpre
 try dsimp only[T.den]at hok hpre
 unfold ady;refine br (fun (s:bpd)=>0<=s.1.1/\s.1.1<=f.length/\bh f n=bh (f.drop s.1.1.toNat) n) (fun (s:bpd)=>(f.length-s.1.1).toNat) ?_ (by simp);rintro⟨⟨i,_⟩,_⟩ next ⟨h0,h1,h2⟩ hn hin
 simp only at h0 h1 h2 hn⊢;refine aq (fun hc=>?_) (fun hc=>?_)
 ·rw[ny f 0 h0 hc]at h2;simp only[bh,a3m]at h2
  grind[cnd,cj,al,jh,bh,inR]
 ·rw[qr f (by omega)]at h2
  grind[cnd,cj,al,jh,bh]
theorem yd:bz Tryz.prog 65 jh:=ci (Φ:=lkp []) ao bm (by kernel_rfl) (fn:=Tryz.f65) (c:=bg Tryz.f65) (by kernel_rfl) (by kernel_rfl) (by kernel_rfl) jh rfl asz (cu []) (by kernel_rfl) (by kernel_rfl) (by kernel_rfl) (by decide) (fun x K=>ady x.1 x.2.1 K) (fun _ _=>by kernel_rfl) (fun x h1 h2=>avt x.1 x.2.1 h1 h2)
def gu(s:ab)(p:ac):Int:=if p.2.length=0 then p.1 else s.2.2.1.getD (p.2.getD (p.2.length-1) 0).toNat 0
def ju:Ct:=⟨[SchemaT,PathT],[true,true],fun x=>[bh x.2.1.2 x.1.2.2.1.length=true],[(false,(.fz (.int .i64)))],fun x=>(gu x.1 x.2.1,()),false,none⟩
def aec(s:ab)(p:ac)(K:Int×Unit->Prop):Prop:=(cnd (((p.2.length:Nat):Int)==0) (K (p.1,())) ((inK .i64 (((p.2.length:Nat):Int)-1))/\((0<=(((p.2.length:Nat):Int)-1))/\(((((p.2.length:Nat):Int)-1)<((p.2.length:Nat):Int))/\((0<=(p.2.getD (Int.toNat (((p.2.length:Nat):Int)-1)) 0))/\(((p.2.getD (Int.toNat (((p.2.length:Nat):Int)-1)) 0)<((s.2.2.1.length:Nat):Int))/\(K ((s.2.2.1.getD (Int.toNat (p.2.getD (Int.toNat (((p.2.length:Nat):Int)-1)) 0)) 0),()))))))))
theorem avv(s:ab)(p:ac)(hok:ae (okL ju.args (s,p,())))(hpre:ae (ju.pre (s,p,()))):aec s p (fun r=>r=ju.res (s,p,())):=by
 simp only[ju,okL,T.oks,T.ok,ap,ae,a0e,a0c,a0i]at hok hpre
 try dsimp only[T.den]at hok hpre
 unfold aec;simp only[ju,gu];refine bc (fun hc=>?_) (fun hc=>?_)
 ·grind[cnd,cj,al]
 ·simp at hc;have hl:0<p.2.length:=by grind[cnd,cj,al]
  have hi:((p.2.length:Int)-1).toNat=p.2.length-1:=by omega
  have hm:p.2.getD (p.2.length-1) 0∈p.2:=by rw[←hi];exact im p.2 0 (by omega) (by omega)
  have:=a1d.1 hpre _ hm;rw[hi]
  grind[cnd,cj,al,inR]
theorem yg:bz Tryz.prog 66 ju:=ci (Φ:=lkp []) ao bm (by kernel_rfl) (fn:=Tryz.f66) (c:=bg Tryz.f66) (by kernel_rfl) (by kernel_rfl) (by kernel_rfl) ju rfl .n (cu [(3,13)]) (by kernel_rfl) (by kernel_rfl) (by kernel_rfl) (by decide) (fun x K=>aec x.1 x.2.1 K) (fun _ _=>by kernel_rfl) (fun x h1 h2=>avv x.1 x.2.1 h1 h2)
def l9:Ct:=⟨[SchemaT,PathT],[true,true],fun x=>[x.1.2.1.length<=x.1.2.2.1.length,inK .i64 (x.1.1-1)],[(false,(.fz .bool))],fun x=>((aw x.1 x.2.1).2,()),false,none⟩
def aq5:Ann:=(.s .n (.s .n (.s .n (.s (.s .n (.l [(5,(.d (.int .i64))),(6,(.d (.int .i64)))] [] [2,3] .n)) .n))))
def arn:FuncId->Option Ct:=lkp [(64,m4),(65,jh)]
def abs(s:ab)(p:ac)(K:Bool×Unit->Prop):Prop:=((inK .i64 (s.1-1))/\(cnd (((!(inR p.1 0 (s.1-1)))||(decide (6<((p.2.length:Nat):Int))))||(!(bh p.2 ((s.2.1.length:Nat):Int)))) (K (false,())) (be (S:=bph) (fun s1=>(fun next=>((inK .i64 s1.1.1)->((inK .i64 s1.1.2.1)->(cnd (decide (s1.1.2.1<((p.2.length:Nat):Int))) ((0<=s1.1.2.1)/\((s1.1.2.1<((p.2.length:Nat):Int))/\((0<=(p.2.getD s1.1.2.1.toNat 0))/\(((p.2.getD s1.1.2.1.toNat 0)<((s.2.1.length:Nat):Int))/\(cnd ((s.2.1.getD (Int.toNat (p.2.getD s1.1.2.1.toNat 0)) 0) != s1.1.1) (K (false,())) ((0<=s1.1.2.1)/\((s1.1.2.1<((p.2.length:Nat):Int))/\((0<=(p.2.getD s1.1.2.1.toNat 0))/\(((p.2.getD s1.1.2.1.toNat 0)<((s.2.2.1.length:Nat):Int))/\((inK .i64 (s1.1.2.1+1))/\(next (((s.2.2.1.getD (Int.toNat (p.2.getD s1.1.2.1.toNat 0)) 0),((s1.1.2.1+1),())),())))))))))))) (K (true,()))))))) ((p.1,(0,())),()))))
theorem at4(s:ab)(p:ac)(hok:ae (okL l9.args (s,p,())))(hpre:ae (l9.pre (s,p,()))):abs s p (fun r=>r=l9.res (s,p,())):=by
 simp only[l9,okL,T.oks,T.ok,ap,ae,a0e,a0c,a0i]at hok hpre
 try dsimp only[T.den]at hok hpre
 unfold abs;simp only[l9,aw]
 have key:∀(nd:Int) (l:List Int),(bf s nd l).2=true->bh l s.2.1.length=true:=by
  intro nd l
  induction l generalizing nd with
  |nil=>intro _;rfl
  |cons e l ih=>
   simp only[bf];split
   ·rename_i h;intro hf;simp only[bh,a3m];have:=ih _ hf;simp only[bh]at this;rw[this,h.1];rfl
   ·intro h;cases h
 refine⟨hpre.2,bc (fun hc=>?_) (fun hc=>?_)⟩
 ·have:=key p.1 p.2
  grind[cnd,cj,al]
 ·simp only[inR,a2a,a2d,a0a,a04,a2j]at hc;rw[d0 ⟨by simp[inR,hc.1.1],by omega⟩];refine br (fun (s1:bph)=>0<=s1.1.2.1/\s1.1.2.1<=p.2.length/\bf s p.1 p.2=bf s s1.1.1 (p.2.drop s1.1.2.1.toNat)) (fun (s1:bph)=>(p.2.length-s1.1.2.1).toNat) ?_ (by simp);rintro⟨⟨nd,i,_⟩,_⟩ next ⟨h0,h1,h2⟩ hn ha hin
  simp only at h0 h1 h2 hn⊢;refine aq (fun hx=>?_) (fun hx=>?_)
  ·have hm:=a1d.1 hc.2 _ (im p.2 0 h0 hx);rw[ny p.2 0 h0 hx]at h2;simp only[bf,hm,a0e]at h2;generalize p.2.getD i.toNat 0=e at *;simp only[inR,a0a,a04]at hm
   grind[cnd,cj,al]
  ·rw[qr p.2 (by omega)]at h2;simp[bf,h2]
theorem ahf:bz Tryz.prog 52 l9:=ci (Φ:=arn) (ai ad1 (ai yd ao)) bm (by kernel_rfl) (fn:=Tryz.f52) (c:=bg Tryz.f52) (by kernel_rfl) (by kernel_rfl) (by kernel_rfl) l9 rfl aq5 (cu [(7,11),(9,10)]) (by kernel_rfl) (by kernel_rfl) (by kernel_rfl) (by decide) (fun x K=>abs x.1 x.2.1 K) (fun _ _=>by kernel_rfl) (fun x h1 h2=>at4 x.1 x.2.1 h1 h2)
theorem ah4(s:ab):∀(nd:Int) (l:List Int),(bf s nd l).2=true->(bf s nd l).1=if l.length=0 then nd else s.2.2.1.getD (l.getD (l.length-1) 0).toNat 0
 |nd,[],_=>rfl
 |nd,e::r,h=>by
  simp only[bf]at h⊢;split at h
  ·rename_i hc;rw[d0 hc];rw[ah4 s _ r h]
   cases r with
   |nil=>simp
   |cons e' r'=>simp
  ·cases h
theorem akv(s:ab):∀(nd:Int) (l:List Int),(bf s nd l).2=true->bh l s.2.1.length=true
 |nd,[],_=>rfl
 |nd,e::r,h=>by
  simp only[bf]at h;split at h
  ·rename_i hc;have:=akv s _ r h;simp only[bh,a3m]at this⊢;rw[this,hc.1];rfl
  ·cases h
theorem ii{s:ab}{p:ac}(h:(aw s p).2=true):gu s p=(aw s p).1/\bh p.2 s.2.1.length=true:=by
 unfold aw at h⊢;split at h
 ·rename_i hc;rw[d0 hc];exact⟨(ah4 s _ _ h).symm,akv s _ _ h⟩
 ·cases h
def ky:Ct:=⟨[SchemaT],[true],fun x=>[],[(false,(.fz .bool))],fun x=>(az x.1,()),false,none⟩
def aoj:Ann:=(.s .n (.s .n (.s (.s .n (.l [(3,(.d (.int .i64)))] [] [1] .n)) .n)))
def apn:FuncId->Option Ct:=lkp [(64,m4),(65,jh),(66,ju),(52,l9)]
def aah(s:ab)(K:Bool×Unit->Prop):Prop:=(cnd (((((((!(inR s.1 0 8))||(decide (8<((s.2.1.length:Nat):Int))))||(((s.2.2.1.length:Nat):Int) != ((s.2.1.length:Nat):Int)))||(!(bh s.2.1 s.1)))||(!(bh s.2.2.1 s.1)))||(decide (8<((s.2.2.2.1.length:Nat):Int))))||(((s.2.2.2.2.length:Nat):Int) != ((s.2.2.2.1.length:Nat):Int))) (K (false,())) (be (S:=bpd) (fun s1=>(fun next=>((inK .i64 s1.1.1)->(cnd (decide (s1.1.1<((s.2.2.2.1.length:Nat):Int))) ((0<=s1.1.1)/\((s1.1.1<((s.2.2.2.1.length:Nat):Int))/\((0<=s1.1.1)/\((s1.1.1<((s.2.2.2.2.length:Nat):Int))/\((s.2.1.length<=s.2.2.1.length)/\((inK .i64 (s.1-1))/\((((!(aw s (s.2.2.2.1.getD s1.1.1.toNat (0,[]))).2)=false)->((inK .i64 (s.1-1))/\(s.2.1.length<=s.2.2.1.length)))/\((((((!(aw s (s.2.2.2.1.getD s1.1.1.toNat (0,[]))).2)||(!(aw s (s.2.2.2.2.getD s1.1.1.toNat (0,[]))).2))||((s.2.2.2.1.getD s1.1.1.toNat (0,[])).1 != (s.2.2.2.2.getD s1.1.1.toNat (0,[])).1))=false)->((bh (s.2.2.2.1.getD s1.1.1.toNat (0,[])).2 ((s.2.2.1.length:Nat):Int))=true))/\((((((!(aw s (s.2.2.2.1.getD s1.1.1.toNat (0,[]))).2)||(!(aw s (s.2.2.2.2.getD s1.1.1.toNat (0,[]))).2))||((s.2.2.2.1.getD s1.1.1.toNat (0,[])).1 != (s.2.2.2.2.getD s1.1.1.toNat (0,[])).1))=false)->((bh (s.2.2.2.2.getD s1.1.1.toNat (0,[])).2 ((s.2.2.1.length:Nat):Int))=true))/\(cnd ((((!(aw s (s.2.2.2.1.getD s1.1.1.toNat (0,[]))).2)||(!(aw s (s.2.2.2.2.getD s1.1.1.toNat (0,[]))).2))||((s.2.2.2.1.getD s1.1.1.toNat (0,[])).1 != (s.2.2.2.2.getD s1.1.1.toNat (0,[])).1))||((gu s (s.2.2.2.1.getD s1.1.1.toNat (0,[]))) != (gu s (s.2.2.2.2.getD s1.1.1.toNat (0,[]))))) (K (false,())) ((inK .i64 (s1.1.1+1))/\(next (((s1.1.1+1),()),()))))))))))))) (K (true,())))))) ((0,()),())))
theorem ask(s:ab)(hok:ae (okL ky.args (s,())))(hpre:ae (ky.pre (s,()))):aah s (fun r=>r=ky.res (s,())):=by
 simp only[ky,okL,T.oks,T.ok,ap,ae,a0e,a0c,a0i]at hok hpre
 try dsimp only[T.den]at hok hpre
 unfold aah;refine bc (fun hc=>?_) (fun hc=>?_)
 ·grind[cnd,cj,al,ky,az]
 have he:az s=u7 s s.2.2.2.1 s.2.2.2.2:=by grind[cnd,cj,al,az]
 simp only[ky,he];simp only[inR,a2a,a2d,a0a,a04,a2j,a1j]at hc;refine br (fun (s1:bpd)=>0<=s1.1.1/\s1.1.1<=s.2.2.2.1.length/\u7 s s.2.2.2.1 s.2.2.2.2=u7 s (s.2.2.2.1.drop s1.1.1.toNat) (s.2.2.2.2.drop s1.1.1.toNat)) (fun (s1:bpd)=>(s.2.2.2.1.length-s1.1.1).toNat) ?_ (by simp);rintro⟨⟨i,_⟩,_⟩ next ⟨h0,h1,h2⟩ hn hin
 simp only at h0 h1 h2 hn⊢;refine aq (fun hx=>?_) (fun hx=>?_)
 ·rw[ny s.2.2.2.1 (0,[]) h0 hx,ny s.2.2.2.2 (0,[]) h0 (by omega)]at h2;simp only[u7,bcv]at h2;generalize s.2.2.2.1.getD i.toNat (0,[])=p at *;generalize s.2.2.2.2.getD i.toNat (0,[])=q at *;have ep:=@ii s p;have eq:=@ii s q;have hl:s.2.2.1.length=s.2.1.length:=by omega
  rw[hl];refine⟨by omega,by omega,by omega,by omega,by omega,by rw[al];(try dsimp only);omega,fun _=>⟨by rw[al];(try dsimp only);omega,by omega⟩,fun hy=>?_,fun hy=>?_,bc (fun hy=>?_) (fun hy=>?_)⟩
  ·grind[cnd,cj,al]
  ·grind[cnd,cj,al]
  ·grind[cnd,cj,al]
  ·grind[cnd,cj,al]
 ·rw[qr s.2.2.2.1 (by omega)]at h2;simp[u7,h2]
theorem aoi:bz Tryz.prog 40 ky:=ci (Φ:=apn) (ai ad1 (ai yd (ai yg (ai ahf ao)))) bm (by kernel_rfl) (fn:=Tryz.f40) (c:=bg Tryz.f40) (by kernel_rfl) (by kernel_rfl) (by kernel_rfl) ky rfl aoj (cu [(6,2012),(7,23)]) (by kernel_rfl) (by kernel_rfl) (by kernel_rfl) (by decide) (fun x K=>aah x.1 K) (fun _ _=>by kernel_rfl) (fun x h1 h2=>ask x.1 h1 h2)
def l8(s:ab)(p:ac):Bool:=az s&&(aw s p).2
theorem arz{s:ab}(h:az s=true):0<=s.1/\s.1<=8/\s.2.2.1.length=s.2.1.length:=by simp only[az,inR,a0a,a04]at h;exact⟨h.1.1.1.1.1.1.1.1,h.1.1.1.1.1.1.1.2,h.1.1.1.1.1.2⟩
def gv:Ct:=⟨[(.pt SchemaT),PathT],[false,true],fun x=>[],[(false,(.fz .bool))],fun x=>(l8 x.1 x.2.1,()),false,none⟩
def aic:FuncId->Option Ct:=lkp [(74,d4),(45,dg)]
def u5(s:ab)(p:ac)(K:Bool×Unit->Prop):Prop:=(cnd (!(az s)) (K (false,())) ((s.2.1.length<=s.2.2.1.length)/\((inK .i64 (s.1-1))/\(K ((aw s p).2,())))))
theorem aj5(s:ab)(p:ac)(hok:ae (okL gv.args (s,p,())))(hpre:ae (gv.pre (s,p,()))):u5 s p (fun r=>r=gv.res (s,p,())):=by
 simp only[gv,okL,T.oks,T.ok,ap,ae,a0e,a0c,a0i]at hok hpre
 try dsimp only[T.den]at hok hpre
 unfold u5;have:=@arz s
 grind[cnd,cj,al,gv,l8]
theorem z7:bz Tryz.prog 78 gv:=ci (Φ:=aic) (ai lq (ai sj ao)) bm (by kernel_rfl) (fn:=Tryz.f78) (c:=bg Tryz.f78) (by kernel_rfl) (by kernel_rfl) (by kernel_rfl) gv rfl .n (cu []) (by kernel_rfl) (by kernel_rfl) (by kernel_rfl) (by decide) (fun x K=>u5 x.1 x.2.1 K) (fun _ _=>by kernel_rfl) (fun x h1 h2=>aj5 x.1 x.2.1 h1 h2)
def jv:Ct:=⟨[(.sl (.int .i64))],[false],fun x=>[x.1.length<=1099511627776],[(false,(.sl (.fz (.int .i64))))],fun x=>(x.1,()),false,none⟩
def afv(list:List Int)(K:(List Int)×Unit->Prop):Prop:=((dz 0 list.length 8)/\(K (list,())))
theorem azi(list:List Int)(hok:ae (okL jv.args (list,())))(hpre:ae (jv.pre (list,()))):afv list (fun r=>r=jv.res (list,())):=by
 simp only[jv,okL,T.oks,T.ok,ap,ae,a0e,a0c,a0i]at hok hpre
 try dsimp only[T.den]at hok hpre
 unfold afv;have hl:list.length<=1099511627776:=hpre;exact⟨da (by omega),rfl⟩
theorem sv:bz Tryz.prog 77 jv:=ci (Φ:=lkp []) ao bm (by kernel_rfl) (fn:=Tryz.f77) (c:=bg Tryz.f77) (by kernel_rfl) (by kernel_rfl) (by kernel_rfl) jv rfl .n (cu []) (by kernel_rfl) (by kernel_rfl) (by kernel_rfl) (by decide) (fun x K=>afv x.1 K) (fun _ _=>by kernel_rfl) (fun x h1 h2=>azi x.1 h1 h2)
def fk:List Int->List Int->Int
 |[],[]=>0
 |[],_::_=>-1
 |_::_,[]=>1
 |x::a,y::b=>if x=y then fk a b else if x<y then -1 else 1
theorem ah9{a b:List Int}:fk a b=0<->a=b:=by
 induction a generalizing b with
 |nil=>cases b <;> simp[fk]
 |cons x a ih=>cases b with
  |nil=>simp[fk]
  |cons y b=>
   simp only[fk,a0h];by_cases h:x=y
   ·rw[d0 h,ih];simp[h]
   ·rw[ds h];split <;> simp[h]
def gf:Ct:=⟨[(.sl (.int .i64)),(.sl (.int .i64))],[false,false],fun x=>[],[(false,(.fz (.int .i64)))],fun x=>(fk x.1 x.2.1,()),false,none⟩
def ard:Ann:=(.s .n (.s (.s .n (.l [(8,(.d (.int .i64)))] [] [0,1,7] .n)) .n))
def abp(a:List Int)(b:List Int)(K:Int×Unit->Prop):Prop:=(be (S:=bpd) (fun s=>(fun next=>((inK .i64 s.1.1)->(cnd (decide (s.1.1<((a.length:Nat):Int))) (cnd (s.1.1==((b.length:Nat):Int)) (K (1,())) ((0<=s.1.1)/\((s.1.1<((a.length:Nat):Int))/\((0<=s.1.1)/\((s.1.1<((b.length:Nat):Int))/\(cnd ((a.getD s.1.1.toNat 0) != (b.getD s.1.1.toNat 0)) ((0<=s.1.1)/\((s.1.1<((a.length:Nat):Int))/\((0<=s.1.1)/\((s.1.1<((b.length:Nat):Int))/\(cnd (decide ((a.getD s.1.1.toNat 0)<(b.getD s.1.1.toNat 0))) (K ((-1),())) (K (1,()))))))) ((inK .i64 (s.1.1+1))/\(next (((s.1.1+1),()),()))))))))) (cnd (decide (((a.length:Nat):Int)<((b.length:Nat):Int))) (K ((-1),())) (K (0,()))))))) ((0,()),()))
theorem at0(a:List Int)(b:List Int)(hok:ae (okL gf.args (a,b,())))(hpre:ae (gf.pre (a,b,()))):abp a b (fun r=>r=gf.res (a,b,())):=by
 simp only[gf,okL,T.oks,T.ok,ap,ae,a0e,a0c,a0i]at hok hpre
 try dsimp only[T.den]at hok hpre
 unfold abp;have ha:a.length<=140737488355328:=by simp only[cj]at hok;omega
 clear hok;refine ld (n:=a.length) (fun i=>i<=b.length/\fk a b=fk (a.drop i.toNat) (b.drop i.toNat)) (by omega) ⟨by omega,by simp⟩ ?_ ?_
 ·intro i next i0 i1 hP hn hin
  obtain⟨hb,hP⟩:=hP;rw[ny a 0 i0 i1]at hP;refine aq (fun _=>bc (fun h=>?_) (fun h=>?_)) (fun h=>absurd i1 h)
  ·rw[a0s]at h;rw[qr b (by dsimp only at h;omega)]at hP;simp only[gf,hP,fk]
  ·rw[a17]at h
   try dsimp only at h⊢
   rw[ny b 0 i0 (by omega)]at hP;simp only[fk]at hP;have hiK:inK .i64 (i+1):=by rw[al];(try dsimp only);omega
   refine⟨i0,i1,i0,by omega,bc (fun h1=>?_) (fun h1=>?_)⟩
   ·rw[a37]at h1;rw[ds h1]at hP;refine⟨i0,i1,i0,by omega,aq (fun h2=>?_) (fun h2=>?_)⟩
    ·rw[d0 h2]at hP;simp only[gf,hP]
    ·rw[ds h2]at hP;simp only[gf,hP]
   ·rw[a1j]at h1;rw[d0 h1]at hP;exact⟨hiK,hn ⟨by omega,hP⟩⟩
 ·intro next hP hin
  obtain⟨hb,hP⟩:=hP;rw[qr a (a0r _)]at hP;refine aq (fun h=>absurd h (by dsimp only;omega)) (fun _=>aq (fun h=>?_) (fun h=>?_))
  ·rw[ny b 0 (by omega) h]at hP;simp only[gf,hP,fk]
  ·rw[qr b (by omega)]at hP;simp only[gf,hP,fk]
theorem aak:bz Tryz.prog 106 gf:=ci (Φ:=lkp []) ao bm (by kernel_rfl) (fn:=Tryz.f106) (c:=bg Tryz.f106) (by kernel_rfl) (by kernel_rfl) (by kernel_rfl) gf rfl ard (cu [(6,9),(7,9)]) (by kernel_rfl) (by kernel_rfl) (by kernel_rfl) (by decide) (fun x K=>abp x.1 x.2.1 K) (fun _ _=>by kernel_rfl) (fun x h1 h2=>at0 x.1 x.2.1 h1 h2)
def rj:Ct:=⟨[(.sl (.int .i64)),(.sl (.int .i64))],[false,false],fun x=>[],[(false,(.fz .bool))],fun x=>(eqR (.sl (.int .i64)) x.1 x.2.1,()),false,none⟩
def ahq(a:List Int)(b:List Int)(K:Bool×Unit->Prop):Prop:=(K (((fk a b)==0),()))
theorem az0(a:List Int)(b:List Int)(hok:ae (okL rj.args (a,b,())))(hpre:ae (rj.pre (a,b,()))):ahq a b (fun r=>r=rj.res (a,b,())):=by
 simp only[rj,okL,T.oks,T.ok,ap,ae,a0e,a0c,a0i]at hok hpre
 try dsimp only[T.den]at hok hpre
 unfold ahq;have h:=@ah9 a b;have h2:(fk a b==0)=eqR (.sl (.int .i64)) a b:=by rw[a36,a0s,h,ff]
 simp only[rj,h2]
theorem ayi:bz Tryz.prog 86 rj:=ci (Φ:=lkp [(106,gf)]) (ai aak ao) bm (by kernel_rfl) (fn:=Tryz.f86) (c:=bg Tryz.f86) (by kernel_rfl) (by kernel_rfl) (by kernel_rfl) rj rfl .n (cu []) (by kernel_rfl) (by kernel_rfl) (by kernel_rfl) (by decide) (fun x K=>ahq x.1 x.2.1 K) (fun _ _=>by kernel_rfl) (fun x h1 h2=>az0 x.1 x.2.1 h1 h2)
structure UfP (j:List Int):Prop where
 le:∀i:Int,0<=i->i<j.length->0<=j.getD i.toNat 0/\j.getD i.toNat 0<=i
def ag7:Nat->List Int->Int->List Int×Int
 |0,j,x=>(j,x)
 |n+1,j,x=>if j.getD x.toNat 0=x then (j,x)else ag7 n (j.set x.toNat (j.getD (j.getD x.toNat 0).toNat 0)) (j.getD (j.getD x.toNat 0).toNat 0)
def cz(j:List Int)(x:Int):List Int×Int:=ag7 j.length j x
def alj:Nat->List Int->Int->Int
 |0,_,x=>x
 |n+1,j,x=>if j.getD x.toNat 0=x then x else alj n j (j.getD x.toNat 0)
def eu(j:List Int)(x:Int):Int:=alj j.length j x
theorem bgh{j:List Int}(U:UfP j):∀(n:Nat) (x:Int),0<=x->x<j.length->x.toNat<=n->alj (n+1) j x=alj n j x
 |0,x,x0,x1,h=>by have:=U.le x x0 x1;simp only[alj];rw[d0 (by omega)]
 |n+1,x,x0,x1,h=>by
  have:=U.le x x0 x1;show (if j.getD x.toNat 0=x then x else alj (n+1) j (j.getD x.toNat 0))=(if j.getD x.toNat 0=x then x else alj n j (j.getD x.toNat 0));split
  ·rfl
  ·exact bgh U n _ this.1 (by omega) (by omega)
theorem acu{j:List Int}(U:UfP j){x:Int}(x0:0<=x)(x1:x<j.length):eu j x=if j.getD x.toNat 0=x then x else eu j (j.getD x.toNat 0):=by
 have:=U.le x x0 x1;unfold eu;obtain⟨m,hm⟩:∃m,j.length=m+1:=⟨j.length-1,by omega⟩;rw[hm]
 conv=>lhs;rw[alj]
 split
 ·rfl
 ·rw[bgh U m _ this.1 (by omega) (by omega)]
theorem azj{j:List Int}{p:Int->Prop}(h:∀x:Int,0<=x->x<j.length->(∀y:Int,0<=y->y<x->p y)->p x){x:Int}(x0:0<=x)(x1:x<j.length):p x:=by
 have key:∀n:Nat,∀x:Int,0<=x->x<j.length->x.toNat<n->p x:=by
  intro n
  induction n with
  |zero=>intro x _ _ hx;omega
  |succ n ih=>intro x x0 x1 hx;exact h x x0 x1 fun y y0 y1=>ih y y0 (by omega) (by omega)
 exact key (x.toNat+1) x x0 x1 (by omega)
theorem awh{j:List Int}(U:UfP j){x:Int}(x0:0<=x)(x1:x<j.length):0<=eu j x/\eu j x<=x/\j.getD (eu j x).toNat 0=eu j x:=by
 refine azj (j:=j) (p:=fun x=>0<=eu j x/\eu j x<=x/\j.getD (eu j x).toNat 0=eu j x) (fun x x0 x1 ih=>?_) x0 x1;have:=U.le x x0 x1;rw[acu U x0 x1];split
 ·rename_i h;exact⟨x0,a0r _,h⟩
 ·rename_i h;have hp:=ih _ this.1 (by omega);exact⟨hp.1,by omega,hp.2.2⟩
theorem wg{j:List Int}(U:UfP j){x:Int}(x0:0<=x)(x1:x<j.length)(h:j.getD x.toNat 0=x):eu j x=x:=by rw[acu U x0 x1,d0 h]
theorem asa{j:List Int}{x y v:Int}(x0:0<=x)(x1:x<j.length)(y0:0<=y):(j.set x.toNat v).getD y.toNat 0=if y=x then v else j.getD y.toNat 0:=by
 rw[acg _ _ _ _ _ (by omega)];by_cases h:y=x
 ·rw[d0 h,d0 (by rw[h])]
 ·rw[ds h,ds (by omega)]
theorem ac5{j:List Int}(U:UfP j){x v:Int}(x0:0<=x)(x1:x<j.length)(v0:0<=v)(v1:v<=x):UfP (j.set x.toNat v):=by
 refine⟨fun i i0 i1=>?_⟩;rw[a1i]at i1;rw[asa x0 x1 i0];split
 ·omega
 ·exact U.le i i0 i1
theorem ay6{j:List Int}(U:UfP j){x:Int}(x0:0<=x)(x1:x<j.length){y:Int}(y0:0<=y)(y1:y<j.length):eu (j.set x.toNat (j.getD (j.getD x.toNat 0).toNat 0)) y=eu j y:=by
 have hx:=U.le x x0 x1;have hp:=U.le _ hx.1 (by omega);have U':=ac5 U x0 x1 hp.1 (by omega);refine azj (j:=j) (p:=fun y=>eu (j.set x.toNat (j.getD (j.getD x.toNat 0).toNat 0)) y=eu j y) (fun y y0 y1 ih=>?_) y0 y1;rw[acu U' y0 (by rw[a1i];exact y1),asa x0 x1 y0];by_cases h:y=x
 ·subst h;simp only[a03];split
  ·rename_i hq;have:j.getD y.toNat 0=y:=by omega
   rw[wg U y0 y1 this]
  ·rename_i hq;rw[ih _ hp.1 (by omega)];rw[acu U y0 y1];have hne:¬j.getD y.toNat 0=y:=fun e=>hq (by rw[e,e]);rw[ds hne,acu U hx.1 (by omega)];split
   ·rename_i he;rw[he];exact wg U hx.1 (by omega) he
   ·rfl
 ·simp only[ds h];have hy:=U.le y y0 y1;rw[acu U y0 y1];split
  ·rfl
  ·exact ih _ hy.1 (by omega)
theorem az6{j:List Int}(U:UfP j):∀(n:Nat) (j:List Int) (x:Int),UfP j->0<=x->x<j.length->x.toNat<=n->ag7 (n+1) j x=ag7 n j x
 |0,j,x,U,x0,x1,h=>by have:=U.le x x0 x1;simp only[ag7];rw[d0 (by omega)]
 |n+1,j,x,U,x0,x1,h=>by
  have hx:=U.le x x0 x1;have hp:=U.le _ hx.1 (by omega);show (if j.getD x.toNat 0=x then (j,x)else ag7 (n+1) (j.set x.toNat (j.getD (j.getD x.toNat 0).toNat 0)) (j.getD (j.getD x.toNat 0).toNat 0))=(if j.getD x.toNat 0=x then (j,x)else ag7 n (j.set x.toNat (j.getD (j.getD x.toNat 0).toNat 0)) (j.getD (j.getD x.toNat 0).toNat 0));split
  ·rfl
  ·exact az6 U n _ _ (ac5 U x0 x1 hp.1 (by omega)) hp.1 (by rw[a1i];omega) (by omega)
theorem bgq{j:List Int}(U:UfP j){x:Int}(x0:0<=x)(x1:x<j.length):cz j x=if j.getD x.toNat 0=x then (j,x)else cz (j.set x.toNat (j.getD (j.getD x.toNat 0).toNat 0)) (j.getD (j.getD x.toNat 0).toNat 0):=by
 have hx:=U.le x x0 x1;have hp:=U.le _ hx.1 (by omega);unfold cz;rw[a1i];obtain⟨m,hm⟩:∃m,j.length=m+1:=⟨j.length-1,by omega⟩;rw[hm]
 conv=>lhs;rw[ag7]
 split
 ·rfl
 ·rw[az6 U m _ _ (ac5 U x0 x1 hp.1 (by omega)) hp.1 (by rw[a1i];omega) (by omega)]
theorem bgi:∀(n:Nat) {j:List Int},UfP j->∀{x:Int},0<=x->x<j.length->x.toNat<n->UfP (cz j x).1/\(cz j x).1.length=j.length/\(cz j x).2=eu j x/\∀y:Int,0<=y->y<j.length->eu (cz j x).1 y=eu j y
 |0,j,U,x,x0,x1,h=>by omega
 |n+1,j,U,x,x0,x1,h=>by
  have hx:=U.le x x0 x1;have hp:=U.le _ hx.1 (by omega);have U':=ac5 U x0 x1 hp.1 (by omega);rw[bgq U x0 x1];split
  ·rename_i he;exact⟨U,rfl,(wg U x0 x1 he).symm,fun y _ _=>rfl⟩
  ·rename_i he;obtain⟨h1,h2,h3,h4⟩:=bgi n U' hp.1 (by rw[a1i];omega) (by omega);rw[a1i]at h2;refine⟨h1,h2,?_,fun y y0 y1=>?_⟩
   ·rw[h3,ay6 U x0 x1 hp.1 (by omega)];rw[acu U x0 x1,ds he];by_cases hq:j.getD (j.getD x.toNat 0).toNat 0=j.getD x.toNat 0
    ·rw[hq]
    ·rw[acu U hx.1 (by omega),ds hq]
   ·rw[h4 y y0 (by rw[a1i];exact y1),ay6 U x0 x1 y0 y1]
theorem aij{j:List Int}(U:UfP j){x:Int}(x0:0<=x)(x1:x<j.length):UfP (cz j x).1/\(cz j x).1.length=j.length/\(cz j x).2=eu j x/\∀y:Int,0<=y->y<j.length->eu (cz j x).1 y=eu j y:=bgi (x.toNat+1) U x0 x1 (by omega)
def je:Wt:=⟨(.sl (.fz (.int .i64))),[(.int .i64)],[false],fun x y=>[UfP x,0<=y.1,y.1<x.length],fun x y=>(cz x y.1).1,[(false,(.fz (.int .i64)))],fun x y=>((cz x y.1).2,())⟩
def xl:Ct:=att je
def akz:Ann:=(.s .n (.s (.l [(0,(.ref 1000000 [])),(1,(.d (.int .i64)))] [(1000000,(.sl (.fz (.int .i64))))] [] .n) .n))
def adu(j:List Int)(x:Int)(K:(List Int)->(Int×Unit)->Prop):Prop:=(be (S:=(bpa×bpb)) (fun s=>(fun next=>((inK .i64 s.1.2.1)->((T.ok (.sl (.int .i64)) s.2.1)->((0<=s.1.2.1)/\((s.1.2.1<((s.2.1.length:Nat):Int))/\(cnd ((s.2.1.getD s.1.2.1.toNat 0) != s.1.2.1) ((0<=s.1.2.1)/\((s.1.2.1<((s.2.1.length:Nat):Int))/\((0<=(s.2.1.getD s.1.2.1.toNat 0))/\(((s.2.1.getD s.1.2.1.toNat 0)<((s.2.1.length:Nat):Int))/\((0<=s.1.2.1)/\((s.1.2.1<((s.2.1.length:Nat):Int))/\((0<=s.1.2.1)/\((s.1.2.1<(((List.length (List.set s.2.1 s.1.2.1.toNat (s.2.1.getD (Int.toNat (s.2.1.getD s.1.2.1.toNat 0)) 0))):Nat):Int))/\(next (((),((List.getD (List.set s.2.1 s.1.2.1.toNat (s.2.1.getD (Int.toNat (s.2.1.getD s.1.2.1.toNat 0)) 0)) s.1.2.1.toNat 0),())),((List.set s.2.1 s.1.2.1.toNat (s.2.1.getD (Int.toNat (s.2.1.getD s.1.2.1.toNat 0)) 0)),()))))))))))) (K s.2.1 (s.1.2.1,()))))))))) (((),(x,())),(j,())))
theorem alf(j:List Int)(x:Int)(hok:ae (je.o.strip.oks j))(hok2:ae (okL je.as (x,())))(hpre:ae (je.pre j (x,()))):adu j x (fun z r=>z=je.new j (x,())/\r=je.res j (x,())):=by
 simp only[je,O.strip,okL,T.oks,T.ok,ap,ae,a0e,a0c,a0i]at hok hok2 hpre
 try dsimp only[T.den]at hok
 try dsimp only[T.den]at hok2
 try dsimp only[T.den]at hpre
 unfold adu;obtain⟨U,x0,x1⟩:=hpre;clear hok;refine br (fun (s:(bpa×bpb))=>UfP s.2.1/\0<=s.1.2.1/\s.1.2.1<s.2.1.length/\cz s.2.1 s.1.2.1=cz j x) (fun (s:(bpa×bpb))=>s.1.2.1.toNat) ?_ ⟨U,x0,x1,rfl⟩;rintro⟨⟨_,y,_⟩,l,_⟩ next ⟨V,y0,y1,hr⟩ hn _ _
 try dsimp only at V y0 y1 hr hn⊢
 have hy:=V.le y y0 y1;have hp:=V.le _ hy.1 (by omega);rw[bgq V y0 y1]at hr;refine⟨y0,y1,bc (fun hx=>?_) (fun hx=>?_)⟩
 ·have hne:¬l.getD y.toNat 0=y:=by simpa using hx
  rw[ds hne]at hr;have hs:=@asa l y y (l.getD (l.getD y.toNat 0).toNat 0) y0 y1 y0;rw[d0 rfl]at hs;refine⟨y0,y1,hy.1,by omega,y0,y1,y0,by rw[a1i];exact y1,?_⟩;rw[hs];exact hn _ ⟨ac5 V y0 y1 hp.1 (by omega),hp.1,by dsimp only;rw[a1i];omega,hr⟩ (by dsimp only;omega)
 ·have he:l.getD y.toNat 0=y:=by simpa using hx
  rw[d0 he]at hr;exact⟨congrArg Prod.fst hr,congrArg (fun z:List Int×Int=>(z.2,())) hr⟩
theorem abd:bz Tryz.prog 129 xl:=bde (Φ:=lkp []) ao bm (by kernel_rfl) (fn:=Tryz.f129) (c:=bg Tryz.f129) (by kernel_rfl) (by kernel_rfl) (by kernel_rfl) je akz (cu []) (by kernel_rfl) (by kernel_rfl) (by kernel_rfl) (by decide) (by kernel_rfl) (fun x y h1 h2 h3=>Eq.mp (by kernel_rfl) (alf x y.1 h1 h2 h3))
def bkc(j:List Int)(a b:Int):List Int:=j.set (mxR a b).toNat (mnR a b)
def wv(j:List Int)(x y:Int):List Int×Bool:=(bkc (cz (cz j x).1 y).1 (cz j x).2 (cz (cz j x).1 y).2,(cz j x).2 != (cz (cz j x).1 y).2)
theorem mm_p(a b:Int):(mxR a b=a/\mnR a b=b/\b<=a)\/(mxR a b=b/\mnR a b=a/\a<=b):=by unfold mxR mnR;split <;> split <;> omega
theorem aw2{j:List Int}(U:UfP j){m n:Int}(m1:m<j.length)(n0:0<=n)(h:n<=m)(hm:j.getD m.toNat 0=m)(hn:j.getD n.toNat 0=n){y:Int}(y0:0<=y)(y1:y<j.length) :
  eu (j.set m.toNat n) y=if eu j y=m then n else eu j y:=by
 have m0:0<=m:=by omega
 have U':=ac5 U m0 m1 n0 h;refine azj (j:=j) (p:=fun y=>eu (j.set m.toNat n) y=if eu j y=m then n else eu j y) (fun y y0 y1 ih=>?_) y0 y1;rw[acu U' y0 (by rw[a1i];exact y1),asa m0 m1 y0];by_cases e:y=m
 ·subst e;simp only[a03];rw[wg U y0 y1 hm,d0 rfl];split
  ·rename_i h1;exact h1.symm
  ·rename_i h1;rw[ih n n0 (by omega),wg U n0 (by omega) hn,ds h1]
 ·simp only[ds e];have hy:=U.le y y0 y1;split
  ·rename_i h1;rw[wg U y0 y1 h1,ds e]
  ·rename_i h1;rw[ih _ hy.1 (by omega),acu U y0 y1,ds h1]
theorem ak8{j:List Int}(U:UfP j){x y:Int}(x0:0<=x)(x1:x<j.length)(y0:0<=y)(y1:y<j.length) :
  UfP (wv j x y).1/\(wv j x y).1.length=j.length/\((∀z:Int,0<=z->z<j.length->eu (wv j x y).1 z=if eu j z=eu j x then eu j y else eu j z)\/∀z:Int,0<=z->z<j.length->eu (wv j x y).1 z=if eu j z=eu j y then eu j x else eu j z):=by
 obtain⟨a1,a2,a3,a4⟩:=aij U x0 x1;obtain⟨b1,b2,b3,b4⟩:=aij a1 y0 (by omega);have hl:(cz (cz j x).1 y).1.length=j.length:=by rw[b2,a2]
 have hr:∀z:Int,0<=z->z<j.length->eu (cz (cz j x).1 y).1 z=eu j z:=fun z z0 z1=>by rw[b4 z z0 (by omega),a4 z z0 z1]
 have hx:(cz j x).2=eu (cz (cz j x).1 y).1 x:=by rw[hr x x0 x1,a3]
 have hy:(cz (cz j x).1 y).2=eu (cz (cz j x).1 y).1 y:=by rw[hr y y0 y1,b3,a4 y y0 y1]
 have px:=awh b1 x0 (by omega);have py:=awh b1 y0 (by omega);rw[hr x x0 x1]at px;rw[hr y y0 y1]at py;unfold wv bkc;simp only;rw[hx,hy,hr x x0 x1,hr y y0 y1];generalize (cz (cz j x).1 y).1=k at *;rcases mm_p (eu j x) (eu j y)with⟨h1,h2,h3⟩|⟨h1,h2,h3⟩
 ·rw[h1,h2];refine⟨ac5 b1 px.1 (by omega) py.1 h3,by rw[a1i];exact hl,.inl fun z z0 z1=>?_⟩;rw[aw2 b1 (by omega) py.1 h3 px.2.2 py.2.2 z0 (by omega),hr z z0 z1]
 ·rw[h1,h2];refine⟨ac5 b1 py.1 (by omega) px.1 h3,by rw[a1i];exact hl,.inr fun z z0 z1=>?_⟩;rw[aw2 b1 (by omega) px.1 h3 py.2.2 px.2.2 z0 (by omega),hr z z0 z1]
def jd:Wt:=⟨(.sl (.fz (.int .i64))),[(.int .i64),(.int .i64)],[false,false],fun x y=>[UfP x,0<=y.1,y.1<x.length,0<=y.2.1,y.2.1<x.length],fun x y=>(wv x y.1 y.2.1).1,[(false,(.fz .bool))],fun x y=>((wv x y.1 y.2.1).2,())⟩
def adv:Ct:=att jd
def adf(j:List Int)(x:Int)(y:Int)(K:(List Int)->(Bool×Unit)->Prop):Prop:=((UfP j)/\((0<=x)/\((x<((j.length:Nat):Int))/\((UfP (cz j x).1)/\((0<=y)/\((y<(((List.length (cz j x).1):Nat):Int))/\((0<=(mxR (cz j x).2 (cz (cz j x).1 y).2))/\(((mxR (cz j x).2 (cz (cz j x).1 y).2)<(((List.length (cz (cz j x).1 y).1):Nat):Int))/\(K (List.set (cz (cz j x).1 y).1 (Int.toNat (mxR (cz j x).2 (cz (cz j x).1 y).2)) (mnR (cz j x).2 (cz (cz j x).1 y).2)) (((cz j x).2 != (cz (cz j x).1 y).2),()))))))))))
theorem ali(j:List Int)(x:Int)(y:Int)(hok:ae (jd.o.strip.oks j))(hok2:ae (okL jd.as (x,y,())))(hpre:ae (jd.pre j (x,y,()))):adf j x y (fun z r=>z=jd.new j (x,y,())/\r=jd.res j (x,y,())):=by
 simp only[jd,O.strip,okL,T.oks,T.ok,ap,ae,a0e,a0c,a0i]at hok hok2 hpre
 try dsimp only[T.den]at hok
 try dsimp only[T.den]at hok2
 try dsimp only[T.den]at hpre
 unfold adf;obtain⟨U,x0,x1,y0,y1⟩:=hpre;clear hok;obtain⟨a1,a2,a3,a4⟩:=aij U x0 x1;obtain⟨b1,b2,b3,b4⟩:=aij a1 y0 (by omega);have px:=awh U x0 x1;have py:=awh U y0 y1;rw[←a4 y y0 y1,←b3]at py;rw[←a3]at px;have hm:=mm_p (cz j x).2 (cz (cz j x).1 y).2;exact⟨U,x0,x1,a1,y0,by omega,by omega,by omega,rfl,rfl⟩
theorem akw:bz Tryz.prog 115 adv:=bde (Φ:=lkp [(129,xl)]) (ai abd ao) bm (by kernel_rfl) (fn:=Tryz.f115) (c:=bg Tryz.f115) (by kernel_rfl) (by kernel_rfl) (by kernel_rfl) jd .n (cu []) (by kernel_rfl) (by kernel_rfl) (by kernel_rfl) (by decide) (by kernel_rfl) (fun x y h1 h2 h3=>Eq.mp (by kernel_rfl) (ali x y.1 y.2.1 h1 h2 h3))
def bkh(l:List (List Int)):Prop:=l.length<=1000000/\∀r∈l,r.length<=1000000
def kbR(l:List (List Int)):List Int:=l.flatMap fun r=>r.map (fun n=>IntKind.wrap .u8 n)++[255]
theorem bnb{α β:Type}(f:α->β)(l:List α):(l.flatMap fun n=>[f n])=l.map f:=by
 induction l with
 |nil=>rfl
 |cons a l ih=>simp only[List.flatMap_cons,a1h,ih];rfl
def vw(l:List (List Int)):ByteArray:=afs (kbR l)
def vn:Ct:=⟨[(.sl (.sl (.int .i64)))],[false],fun x=>[bkh x.1],[(false,(.fz .str))],fun x=>(vw x.1,()),false,none⟩
def azz:Ann:=(.s .n (.s .n (.s (.s .n (.l [(3,(.ref 800003 [])),(11,(.d (.int .i64)))] [(800003,(.sl (.fz (.int .u8))))] [9,10] (.s .n (.s .n (.s (.s .n (.s (.s .n (.l [(3,(.ref 800003 [])),(17,(.d (.int .i64)))] [(800003,(.sl (.fz (.int .u8))))] [9,10,11,15,16] .n)) .n)) .n))))) .n)))
def akb(lists:List (List Int))(K:ByteArray×Unit->Prop):Prop:=(be (S:=(bpa×bpb)) (fun s=>(fun next=>((inK .i64 s.1.2.1)->((T.ok (.sl (.int .u8)) s.2.1)->(cnd (decide (s.1.2.1<((lists.length:Nat):Int))) ((0<=s.1.2.1)/\((s.1.2.1<((lists.length:Nat):Int))/\(be (S:=(bpa×bpb)) (fun s1=>(fun next1=>((inK .i64 s1.1.2.1)->((T.ok (.sl (.int .u8)) s1.2.1)->(cnd (decide (s1.1.2.1<(((List.length (lists.getD s.1.2.1.toNat [])):Nat):Int))) ((0<=s1.1.2.1)/\((s1.1.2.1<(((List.length (lists.getD s.1.2.1.toNat [])):Nat):Int))/\((dz s1.2.1.length (List.length ((IntKind.wrap .u8 (List.getD (lists.getD s.1.2.1.toNat []) s1.1.2.1.toNat 0))::[])) 1)/\((inK .i64 (s1.1.2.1+1))/\(next1 (((),((s1.1.2.1+1),())),((s1.2.1++((IntKind.wrap .u8 (List.getD (lists.getD s.1.2.1.toNat []) s1.1.2.1.toNat 0))::[])),()))))))) ((dz s1.2.1.length (List.length (255::[])) 1)/\((inK .i64 (s.1.2.1+1))/\(next (((),((s.1.2.1+1),())),((s1.2.1++(255::[])),())))))))))) (((),(0,())),(s.2.1,()))))) (K ((afs s.2.1),()))))))) (((),(0,())),([],())))
theorem bcr(lists:List (List Int))(hok:ae (okL vn.args (lists,())))(hpre:ae (vn.pre (lists,()))):akb lists (fun r=>r=vn.res (lists,())):=by
 simp only[vn,okL,T.oks,T.ok,ap,ae,a0e,a0c,a0i]at hok hpre
 try dsimp only[T.den]at hok hpre
 unfold akb;obtain⟨h1,h2⟩:=hpre;clear hok;refine ayf lists [] (fun r=>r.map (fun n=>IntKind.wrap .u8 n)++[255]) [] 1000001 (fun r hr=>by have:=h2 r hr;simp only[a0q,a0y,a0l,a0p];omega) ?_ ?_
 ·intro i out next i0 i1 hb hn _ _
  refine aq (fun _=>?_) (fun h=>absurd i1 h);refine⟨i0,i1,?_⟩;have hl:=h2 _ (im lists [] i0 i1);simp only[a0q,a0y,a0l,a0p,a0p]at hb
  try dsimp only at hn⊢
  generalize lists.getD i.toNat []=l at hl hb hn⊢;have hle:out.length+l.length<=4000000000000:=by omega
  refine ayf l 0 (fun n=>[IntKind.wrap .u8 n]) out 1 (fun x _=>a0f _) ?_ ?_
  ·intro j acc next1 j0 j1 hb1 hn1 _ _;simp only[a0l,a0p]at hb1;exact aq (fun _=>⟨j0,j1,by simp only[dz,cj,a0l,a0p];omega,by rw[al];dsimp only;omega,hn1⟩) (fun h=>absurd j1 h)
  ·intro next1 _ _;refine aq (fun h=>absurd h (a21 _)) (fun _=>?_);rw[bnb];refine⟨by simp only[dz,cj,a0q,a0y,a0l,a0p];omega,by rw[al];(try dsimp only);omega,?_⟩;rw[a06];exact hn
 ·intro next _ _
  exact aq (fun h=>absurd h (a21 _)) (fun _=>rfl)
theorem azt:bz Tryz.prog 128 vn:=ci (Φ:=lkp []) ao bm (by kernel_rfl) (fn:=Tryz.f128) (c:=bg Tryz.f128) (by kernel_rfl) (by kernel_rfl) (by kernel_rfl) vn rfl azz (cu []) (by kernel_rfl) (by kernel_rfl) (by kernel_rfl) (by decide) (fun x K=>akb x.1 K) (fun _ _=>by kernel_rfl) (fun x h1 h2=>bcr x.1 h1 h2)
def j7:Ct:=⟨[(.int .i64),(.sl (.int .i64))],[false,false],fun x=>[x.2.1.length<=1000000],[(false,(.fz .str))],fun x=>(vw [[x.1],x.2.1],()),false,none⟩
def ab7(start:Int)(edges:List Int)(K:ByteArray×Unit->Prop):Prop:=((bkh ((start::[])::(edges::[])))/\(K ((vw ((start::[])::(edges::[]))),())))
theorem atl(start:Int)(edges:List Int)(hok:ae (okL j7.args (start,edges,())))(hpre:ae (j7.pre (start,edges,()))):ab7 start edges (fun r=>r=j7.res (start,edges,())):=by
 simp only[j7,okL,T.oks,T.ok,ap,ae,a0e,a0c,a0i]at hok hpre
 try dsimp only[T.den]at hok hpre
 unfold ab7;refine⟨⟨by simp,?_⟩,rfl⟩;intro r hr;simp only[a0u,a34,or_false]at hr;rcases hr with rfl|rfl
 ·simp
 ·exact hpre
theorem wy:bz Tryz.prog 111 j7:=ci (Φ:=lkp [(128,vn)]) (ai azt ao) bm (by kernel_rfl) (fn:=Tryz.f111) (c:=bg Tryz.f111) (by kernel_rfl) (by kernel_rfl) (by kernel_rfl) j7 rfl .n (cu []) (by kernel_rfl) (by kernel_rfl) (by kernel_rfl) (by decide) (fun x K=>ab7 x.1 x.2.1 K) (fun _ _=>by kernel_rfl) (fun x h1 h2=>atl x.1 x.2.1 h1 h2)
def cn(k:aj)(x:Int)(es:List Int):Int:=pm .str (.int .i64) k.1 (vw [[x],es])
def ge:Ct:=⟨[(.pt m5),(.int .i64),(.sl (.int .i64))],[false,false,false],fun x=>[x.2.2.1.length<=1000000,0<=cn x.1 x.2.1 x.2.2.1,cn x.1 x.2.1 x.2.2.1<x.1.2.1.length],[(false,(.fz (.int .i64)))],fun x=>(x.1.2.1.getD (cn x.1 x.2.1 x.2.2.1).toNat 0,()),false,none⟩
def up(k:aj)(start:Int)(edges:List Int)(K:Int×Unit->Prop):Prop:=((edges.length<=1000000)/\((0<=(pm T.str (.int .i64) k.1 (vw ((start::[])::(edges::[])))))/\(((pm T.str (.int .i64) k.1 (vw ((start::[])::(edges::[]))))<((k.2.1.length:Nat):Int))/\(K ((k.2.1.getD (Int.toNat (pm T.str (.int .i64) k.1 (vw ((start::[])::(edges::[]))))) 0),())))))
theorem ai7(k:aj)(start:Int)(edges:List Int)(hok:ae (okL ge.args (k,start,edges,())))(hpre:ae (ge.pre (k,start,edges,()))):up k start edges (fun r=>r=ge.res (k,start,edges,())):=by
 simp only[ge,okL,T.oks,T.ok,ap,ae,a0e,a0c,a0i]at hok hpre
 try dsimp only[T.den]at hok hpre
 unfold up;exact⟨hpre.1,hpre.2.1,hpre.2.2,rfl⟩
theorem tx:bz Tryz.prog 95 ge:=ci (Φ:=lkp [(111,j7)]) (ai wy ao) bm (by kernel_rfl) (fn:=Tryz.f95) (c:=bg Tryz.f95) (by kernel_rfl) (by kernel_rfl) (by kernel_rfl) ge rfl .n (cu [(1,12)]) (by kernel_rfl) (by kernel_rfl) (by kernel_rfl) (by decide) (fun x K=>up x.1 x.2.1 x.2.2.1 K) (fun _ _=>by kernel_rfl) (fun x h1 h2=>ai7 x.1 x.2.1 x.2.2.1 h1 h2)
def fg:Wc:=⟨(.pt (.sl (.fz (.int .i64)))),1,[(.sl (.int .i64)),.any,(.pt (.int .i64)),(.pt (.pt m5)),(.pt PathT)],[false,false,false,false,false],fun x y=>[UfP x,0<=y.2.2.1,y.2.2.1<x.length,y.1.length<=1000000,0<=cn y.2.2.2.1 y.2.2.2.2.1.1 y.1,cn y.2.2.2.1 y.2.2.2.2.1.1 y.1<x.length],fun x y=>(wv x y.2.2.1 (cn y.2.2.2.1 y.2.2.2.2.1.1 y.1)).1⟩
def ml:Ct:=bii fg
def abg:FuncId->Option Ct:=lkp [(115,adv),(111,j7)]
def uy(box:(List Int))(edges:List Int)(j:Unit)(i:Int)(k:aj)(p:ac)(K:(List Int)->Prop):Prop:=((edges.length<=1000000)/\((UfP box)/\((0<=i)/\((i<((box.length:Nat):Int))/\((0<=(pm T.str (.int .i64) k.1 (vw ((p.1::[])::(edges::[])))))/\(((pm T.str (.int .i64) k.1 (vw ((p.1::[])::(edges::[]))))<((box.length:Nat):Int))/\(K (wv box i (pm T.str (.int .i64) k.1 (vw ((p.1::[])::(edges::[]))))).1)))))))
theorem ac9(box:(List Int))(edges:List Int)(j:Unit)(i:Int)(k:aj)(p:ac)(hok:ae (fg.o.strip.oks box))(hok2:ae (okL fg.as (edges,j,i,k,p,())))(hpre:ae (fg.pre box (edges,j,i,k,p,()))):uy box edges j i k p (fun z=>z=fg.new box (edges,j,i,k,p,())):=by
 simp only[fg,O.strip,okL,T.oks,T.ok,ap,ae,a0e,a0c,a0i]at hok hok2 hpre
 try dsimp only[T.den]at hok
 try dsimp only[T.den]at hok2
 try dsimp only[T.den]at hpre
 unfold uy;obtain⟨h1,h2,h3,h4,h5,h6⟩:=hpre;exact⟨h4,h1,h2,h3,h5,h6,rfl⟩
theorem pc:bz Tryz.prog 114 ml:=bjz (Φ:=abg) (ai akw (ai wy ao)) bm (by kernel_rfl) (fn:=Tryz.f114) (c:=bg Tryz.f114) (by kernel_rfl) (by kernel_rfl) (by kernel_rfl) fg .n (cu [(0,11)]) (by kernel_rfl) (by kernel_rfl) (by kernel_rfl) (by kernel_rfl) (by kernel_rfl) (by decide) (by kernel_rfl) (fun x y h1 h2 h3=>Eq.mp (by kernel_rfl) (ac9 x y.1 y.2.1 y.2.2.1 y.2.2.2.1 y.2.2.2.2.1 h1 h2 h3))
def afg(s:ab)(p:ac)(i:Int):Int:=if i=0 then p.1 else s.2.2.1.getD (p.2.getD (i-1).toNat 0).toNat 0
def zt(s:ab)(p l:ac)(i:Int):Bool:=(afg s p i==l.1&&decide (i+l.2.length<=p.2.length))&&eqR (.sl (.int .i64)) ((p.2.take (i+l.2.length).toNat).drop i.toNat) l.2
def pp(p l r:ac)(i:Int):List Int:=p.2.take i.toNat++r.2++p.2.drop (i+l.2.length).toNat
def qk(s:ab)(p l r:ac)(i:Int)(k:aj)(p2:ac):Nat->List Int->List Int
 |0,j=>j
 |n+1,j=>if zt s p l n=true/\(pp p l r n).length<=6 then (wv (qk s p l r i k p2 n j) i (cn k p2.1 (pp p l r n))).1 else qk s p l r i k p2 n j
structure VisP (s:ab) (p l r:ac) (i:Int) (k:aj) (p2:ac) (j:List Int):Prop where
 U:UfP j
 i0:0<=i
 i1:i<j.length
 lp:p.2.length<=1000000
 ll:l.2.length<=1000000
 lr:r.2.length<=1000000
 wp:bh p.2 s.2.2.1.length=true
 at_:∀n:Int,0<=n->n<=p.2.length->zt s p l n=true->(pp p l r n).length<=6->0<=cn k p2.1 (pp p l r n)/\cn k p2.1 (pp p l r n)<j.length
theorem bgv{s:ab}{p l r:ac}{i:Int}{k:aj}{p2:ac}{j:List Int}(V:VisP s p l r i k p2 j):∀n:Nat,n<=p.2.length+1->UfP (qk s p l r i k p2 n j)/\(qk s p l r i k p2 n j).length=j.length
 |0,_=>⟨V.U,rfl⟩
 |n+1,h=>by
  obtain⟨a,b⟩:=bgv V n (by omega);simp only[qk];split
  ·rename_i hc;obtain⟨q1,q2⟩:=V.at_ n (by omega) (by omega) hc.1 hc.2;obtain⟨u1,u2,_⟩:=ak8 a V.i0 (by rw[b];exact V.i1) q1 (by rw[b];exact q2);exact⟨u1,u2.trans b⟩
  ·exact⟨a,b⟩
def ij:Wc:=⟨(.pt (.sl (.fz (.int .i64)))),4,[(.pt SchemaT),PathT,PathT,PathT,(.fn 114 (.p .any (.p (.pt (.int .i64)) (.p (.pt (.pt m5)) (.p (.pt PathT) .u)))))],[false,true,true,true,false],fun x y=>[VisP y.1 y.2.1 y.2.2.1 y.2.2.2.1 y.2.2.2.2.1.2.1 y.2.2.2.2.1.2.2.1 y.2.2.2.2.1.2.2.2.1 x],fun x y=>qk y.1 y.2.1 y.2.2.1 y.2.2.2.1 y.2.2.2.2.1.2.1 y.2.2.2.2.1.2.2.1 y.2.2.2.2.1.2.2.2.1 (y.2.1.2.length+1) x⟩
def tv:Ct:=bii ij
def ag0:Ann:=(.s .n (.s .n (.s .n (.l [(4,(.fc 114 (.pr (.ad 1000000 [.de]) (.pr (.d (.pt (.int .i64))) (.pr (.d (.pt (.pt (.p (.mp .str (.int .i64)) (.p (.sl (.int .i64)) (.sl (.p (.int .i64) (.sl (.int .i64))))))))) (.pr (.d (.pt (.p (.int .i64) (.sl (.int .i64))))) .u)))))),(10,(.d (.int .i64))),(11,(.d (.int .i64)))] [(1000000,(.pt (.sl (.fz (.int .i64)))))] [0,6,7,8] (.s .n (.s (.s .n (.s (.s .n (.j [(4,(.fc 114 (.pr (.ad 1000000 [.de]) (.pr (.d (.pt (.int .i64))) (.pr (.d (.pt (.pt (.p (.mp .str (.int .i64)) (.p (.sl (.int .i64)) (.sl (.p (.int .i64) (.sl (.int .i64))))))))) (.pr (.d (.pt (.p (.int .i64) (.sl (.int .i64))))) .u))))))] [(1000000,(.pt (.sl (.fz (.int .i64)))))] [0,6,7,8,10,11] (.s (.s .n (.s .n (.j [(4,(.fc 114 (.pr (.ad 1000000 [.de]) (.pr (.d (.pt (.int .i64))) (.pr (.d (.pt (.pt (.p (.mp .str (.int .i64)) (.p (.sl (.int .i64)) (.sl (.p (.int .i64) (.sl (.int .i64))))))))) (.pr (.d (.pt (.p (.int .i64) (.sl (.int .i64))))) .u))))))] [(1000000,(.pt (.sl (.fz (.int .i64)))))] [0,6,7,8,10,11] .n))) .n))) (.s .n (.j [(4,(.fc 114 (.pr (.ad 1000000 [.de]) (.pr (.d (.pt (.int .i64))) (.pr (.d (.pt (.pt (.p (.mp .str (.int .i64)) (.p (.sl (.int .i64)) (.sl (.p (.int .i64) (.sl (.int .i64))))))))) (.pr (.d (.pt (.p (.int .i64) (.sl (.int .i64))))) .u)))))),(10,(.d (.int .i64)))] [(1000000,(.pt (.sl (.fz (.int .i64)))))] [0,6,7,8,11] .n)))) .n))))))
def agp:FuncId->Option Ct:=lkp [(77,jv),(86,rj),(114,ml)]
def y5(box:(List Int))(s:ab)(p:ac)(left:ac)(right:ac)(visit:Unit×(Int×(aj×(ac×Unit))))(K:(List Int)->Prop):Prop:=(be (S:=(((Unit×(Int×(((List (ByteArray×Int))×bpe)×(bo9×Unit))))×(Int×(Int×Unit)))×bpb)) (fun s1=>(fun next=>((inK .i64 s1.1.1.2.1)->((T.ok (T.mp T.str (.int .i64)) s1.1.1.2.2.1.1)->((T.ok (.sl (.int .i64)) s1.1.1.2.2.1.2.1)->((T.ok (.sl PathT) s1.1.1.2.2.1.2.2)->((inK .i64 s1.1.1.2.2.2.1.1)->((T.ok (.sl (.int .i64)) s1.1.1.2.2.2.1.2)->((inK .i64 s1.1.2.1)->((inK .i64 s1.1.2.2.1)->((T.ok (.sl (.int .i64)) s1.2.1)->(cnd (decide (s1.1.2.2.1<=((p.2.length:Nat):Int))) ((inK .i64 (s1.1.2.2.1+((left.2.length:Nat):Int)))/\(((((s1.1.2.1==left.1)&&(decide ((s1.1.2.2.1+((left.2.length:Nat):Int))<=((p.2.length:Nat):Int))))=true)->((s1.1.2.2.1<=(s1.1.2.2.1+((left.2.length:Nat):Int)))/\(((s1.1.2.2.1+((left.2.length:Nat):Int))<=((p.2.length:Nat):Int))/\(0<=s1.1.2.2.1))))/\(ic (S:=(((Unit×(Int×(((List (ByteArray×Int))×bpe)×(bo9×Unit))))×Unit)×bpb)) (fun s2=>((inK .i64 s2.1.1.2.1)->((T.ok (T.mp T.str (.int .i64)) s2.1.1.2.2.1.1)->((T.ok (.sl (.int .i64)) s2.1.1.2.2.1.2.1)->((T.ok (.sl PathT) s2.1.1.2.2.1.2.2)->((inK .i64 s2.1.1.2.2.2.1.1)->((T.ok (.sl (.int .i64)) s2.1.1.2.2.2.1.2)->((T.ok (.sl (.int .i64)) s2.2.1)->(ic (S:=(((Unit×(Int×(((List (ByteArray×Int))×bpe)×(bo9×Unit))))×(Int×Unit))×bpb)) (fun s3=>((inK .i64 s3.1.1.2.1)->((T.ok (T.mp T.str (.int .i64)) s3.1.1.2.2.1.1)->((T.ok (.sl (.int .i64)) s3.1.1.2.2.1.2.1)->((T.ok (.sl PathT) s3.1.1.2.2.1.2.2)->((inK .i64 s3.1.1.2.2.2.1.1)->((T.ok (.sl (.int .i64)) s3.1.1.2.2.2.1.2)->((inK .i64 s3.1.2.1)->((T.ok (.sl (.int .i64)) s3.2.1)->((inK .i64 (s1.1.2.2.1+1))/\(next ((((),(s3.1.1.2.1,(s3.1.1.2.2.1,(s3.1.1.2.2.2.1,())))),(s3.1.2.1,((s1.1.2.2.1+1),()))),(s3.2.1,()))))))))))))) (fun k=>(cnd (decide (s1.1.2.2.1<((p.2.length:Nat):Int))) ((0<=s1.1.2.2.1)/\((s1.1.2.2.1<((p.2.length:Nat):Int))/\((0<=(p.2.getD s1.1.2.2.1.toNat 0))/\(((p.2.getD s1.1.2.2.1.toNat 0)<((s.2.2.1.length:Nat):Int))/\(k ((((),(s2.1.1.2.1,(s2.1.1.2.2.1,(s2.1.1.2.2.2.1,())))),((s.2.2.1.getD (Int.toNat (p.2.getD s1.1.2.2.1.toNat 0)) 0),())),(s2.2.1,()))))))) (k ((((),(s2.1.1.2.1,(s2.1.1.2.2.1,(s2.1.1.2.2.2.1,())))),(s1.1.2.1,())),(s2.2.1,())))))))))))))) (fun k=>(cnd (((s1.1.2.1==left.1)&&(decide ((s1.1.2.2.1+((left.2.length:Nat):Int))<=((p.2.length:Nat):Int))))&&(eqR (.sl (.int .i64)) (List.drop s1.1.2.2.1.toNat (List.take (Int.toNat (s1.1.2.2.1+((left.2.length:Nat):Int))) p.2)) left.2)) ((0<=s1.1.2.2.1)/\((s1.1.2.2.1<=((p.2.length:Nat):Int))/\(((List.length (List.take s1.1.2.2.1.toNat p.2))<=1099511627776)/\((0<=(s1.1.2.2.1+((left.2.length:Nat):Int)))/\(((s1.1.2.2.1+((left.2.length:Nat):Int))<=((p.2.length:Nat):Int))/\((dz (List.length (List.take s1.1.2.2.1.toNat p.2)) right.2.length 8)/\((dz (List.length ((List.take s1.1.2.2.1.toNat p.2)++right.2)) (List.length (List.drop (Int.toNat (s1.1.2.2.1+((left.2.length:Nat):Int))) p.2)) 8)/\(ic (S:=(((Unit×(Int×(((List (ByteArray×Int))×bpe)×(bo9×Unit))))×Unit)×bpb)) (fun s2=>((inK .i64 s2.1.1.2.1)->((T.ok (T.mp T.str (.int .i64)) s2.1.1.2.2.1.1)->((T.ok (.sl (.int .i64)) s2.1.1.2.2.1.2.1)->((T.ok (.sl PathT) s2.1.1.2.2.1.2.2)->((inK .i64 s2.1.1.2.2.2.1.1)->((T.ok (.sl (.int .i64)) s2.1.1.2.2.2.1.2)->((T.ok (.sl (.int .i64)) s2.2.1)->(k ((((),(s2.1.1.2.1,(s2.1.1.2.2.1,(s2.1.1.2.2.2.1,())))),()),(s2.2.1,()))))))))))) (fun k1=>(cnd (decide ((((List.length (((List.take s1.1.2.2.1.toNat p.2)++right.2)++(List.drop (Int.toNat (s1.1.2.2.1+((left.2.length:Nat):Int))) p.2))):Nat):Int)<=6)) ((UfP s1.2.1)/\((0<=s1.1.1.2.1)/\((s1.1.1.2.1<((s1.2.1.length:Nat):Int))/\(((List.length (((List.take s1.1.2.2.1.toNat p.2)++right.2)++(List.drop (Int.toNat (s1.1.2.2.1+((left.2.length:Nat):Int))) p.2)))<=1000000)/\((0<=(cn s1.1.1.2.2.1 s1.1.1.2.2.2.1.1 (((List.take s1.1.2.2.1.toNat p.2)++right.2)++(List.drop (Int.toNat (s1.1.2.2.1+((left.2.length:Nat):Int))) p.2))))/\(((cn s1.1.1.2.2.1 s1.1.1.2.2.2.1.1 (((List.take s1.1.2.2.1.toNat p.2)++right.2)++(List.drop (Int.toNat (s1.1.2.2.1+((left.2.length:Nat):Int))) p.2)))<((s1.2.1.length:Nat):Int))/\(k1 ((((),(s1.1.1.2.1,(s1.1.1.2.2.1,(s1.1.1.2.2.2.1,())))),()),((wv s1.2.1 s1.1.1.2.1 (cn s1.1.1.2.2.1 s1.1.1.2.2.2.1.1 (((List.take s1.1.2.2.1.toNat p.2)++right.2)++(List.drop (Int.toNat (s1.1.2.2.1+((left.2.length:Nat):Int))) p.2)))).1,()))))))))) (k1 ((((),(s1.1.1.2.1,(s1.1.1.2.2.1,(s1.1.1.2.2.2.1,())))),()),(s1.2.1,()))))))))))))) (k ((((),(s1.1.1.2.1,(s1.1.1.2.2.1,(s1.1.1.2.2.2.1,())))),()),(s1.2.1,())))))))) (K s1.2.1))))))))))))) ((((),(visit.2.1,(visit.2.2.1,(visit.2.2.2.1,())))),(p.1,(0,()))),(box,())))
theorem ah5(box:(List Int))(s:ab)(p:ac)(left:ac)(right:ac)(visit:Unit×(Int×(aj×(ac×Unit))))(hok:ae (ij.o.strip.oks box))(hok2:ae (okL ij.as (s,p,left,right,visit,())))(hpre:ae (ij.pre box (s,p,left,right,visit,()))):y5 box s p left right visit (fun z=>z=ij.new box (s,p,left,right,visit,())):=by
 simp only[ij,O.strip,okL,T.oks,T.ok,ap,ae,a0e,a0c,a0i]at hok hok2 hpre
 try dsimp only[T.den]at hok
 try dsimp only[T.den]at hok2
 try dsimp only[T.den]at hpre
 unfold y5;have V:=hpre;clear hpre hok hok2;have lp:=V.lp;have ll:=V.ll;have lr:=V.lr;refine br (fun (q:(((Unit×(Int×(((List (ByteArray×Int))×bpe)×(bo9×Unit))))×(Int×(Int×Unit)))×bpb))=>q.1.1.2.1=visit.2.1/\q.1.1.2.2.1=visit.2.2.1/\q.1.1.2.2.2.1=visit.2.2.2.1/\(q.1.2.2.1<=p.2.length->q.1.2.1=afg s p q.1.2.2.1)/\0<=q.1.2.2.1/\q.1.2.2.1<=p.2.length+1/\q.2.1=qk s p left right visit.2.1 visit.2.2.1 visit.2.2.2.1 q.1.2.2.1.toNat box) (fun (q:(((Unit×(Int×(((List (ByteArray×Int))×bpe)×(bo9×Unit))))×(Int×(Int×Unit)))×bpb))=>(p.2.length+1-q.1.2.2.1).toNat) ?_ ⟨rfl,rfl,rfl,fun _=>rfl,a0r _,by dsimp only;omega,rfl⟩;rintro⟨⟨⟨_,vi,vk,vp,_⟩,nd,n,_⟩,J,_⟩ next ⟨e1,e2,e3,hnd,a0,a1,eJ⟩ hnx
 intros
 try dsimp only at e1 e2 e3 hnd a0 a1 eJ hnx⊢
 subst e1;subst e2;subst e3;subst eJ;obtain⟨U,lJ⟩:=bgv V n.toNat (by omega);refine aq (fun hle=>?_) (fun hgt=>?_)
 ·have hnd:=hnd hle;subst hnd;have hs:qk s p left right visit.2.1 visit.2.2.1 visit.2.2.2.1 (n+1).toNat box=if zt s p left n=true/\(pp p left right n).length<=6 then (wv (qk s p left right visit.2.1 visit.2.2.1 visit.2.2.2.1 n.toNat box) visit.2.1 (cn visit.2.2.1 visit.2.2.2.1.1 (pp p left right n))).1 else qk s p left right visit.2.1 visit.2.2.1 visit.2.2.2.1 n.toNat box:=by rw[show (n+1).toNat=n.toNat+1 from by omega];simp only[qk];rw[a1y a0]
  refine⟨by rw[al];(try dsimp only);omega,fun h=>?_,g6 (fun (q:(((Unit×(Int×(((List (ByteArray×Int))×bpe)×(bo9×Unit))))×Unit)×bpb))=>q.1.1.2.1=visit.2.1/\q.1.1.2.2.1=visit.2.2.1/\q.1.1.2.2.2.1=visit.2.2.2.1/\q.2.1=qk s p left right visit.2.1 visit.2.2.1 visit.2.2.2.1 (n+1).toNat box) ?_ ?_⟩
  ·rw[a0a,a04]at h;exact⟨by omega,h.2,a0⟩
  ·rintro⟨⟨⟨_,vi,vk,vp,_⟩,_⟩,J,_⟩ ⟨e1,e2,e3,eJ⟩;intros
   try dsimp only at e1 e2 e3 eJ⊢
   subst e1;subst e2;subst e3;subst eJ;refine g6 (fun (q:(((Unit×(Int×(((List (ByteArray×Int))×bpe)×(bo9×Unit))))×(Int×Unit))×bpb))=>q.1.1.2.1=visit.2.1/\q.1.1.2.2.1=visit.2.2.1/\q.1.1.2.2.2.1=visit.2.2.2.1/\(n+1<=p.2.length->q.1.2.1=afg s p (n+1))/\q.2.1=qk s p left right visit.2.1 visit.2.2.1 visit.2.2.2.1 (n+1).toNat box) ?_ ?_
   ·rintro⟨⟨⟨_,vi,vk,vp,_⟩,nd,_⟩,J,_⟩ ⟨e1,e2,e3,e4,eJ⟩;intros
    try dsimp only at e1 e2 e3 e4 eJ⊢
    exact⟨by rw[al];(try dsimp only);omega,hnx _ ⟨e1,e2,e3,e4,by dsimp only;omega,by dsimp only;omega,eJ⟩ (by dsimp only;omega)⟩
   ·intro k3 hk3;refine aq (fun hlt=>?_) (fun h=>hk3 _ ⟨rfl,rfl,rfl,fun h'=>absurd h' (by omega),rfl⟩);obtain⟨w0,w1⟩:=kt.1 V.wp n a0 hlt;refine⟨a0,hlt,w0,w1,hk3 _ ⟨rfl,rfl,rfl,fun _=>?_,rfl⟩⟩;unfold afg;rw[ds (by omega),show n+1-1=n from by omega]
  ·intro kk hk;refine bc (fun hb=>?_) (fun hb=>?_)
   ·have hb0:=hb;rw[a0a,a0a,a04]at hb;have hl1:(p.2.take n.toNat).length<=1000000:=by rw[a1c];omega
    refine⟨a0,hle,by omega,by omega,hb.1.2,da (by omega),da (by rw[a0q,a1n];omega),g6 (fun (q:(((Unit×(Int×(((List (ByteArray×Int))×bpe)×(bo9×Unit))))×Unit)×bpb))=>q.1.1.2.1=visit.2.1/\q.1.1.2.2.1=visit.2.2.1/\q.1.1.2.2.2.1=visit.2.2.2.1/\q.2.1=qk s p left right visit.2.1 visit.2.2.1 visit.2.2.2.1 (n+1).toNat box) ?_ ?_⟩
    ·rintro⟨⟨⟨_,vi,vk,vp,_⟩,_⟩,J,_⟩ ⟨e1,e2,e3,eJ⟩;intros
     try dsimp only at e1 e2 e3 eJ⊢
     exact hk _ ⟨e1,e2,e3,eJ⟩
    ·intro k4 hk4;refine aq (fun h6=>?_) (fun h6=>?_)
     ·have h6':(pp p left right n).length<=6:=Int.ofNat_le.1 h6;obtain⟨q1,q2⟩:=V.at_ n a0 hle hb0 h6';rw[d0 ⟨hb0,h6'⟩]at hs;exact⟨U,V.i0,by rw[lJ];exact V.i1,a1a h6' (by decide),q1,by rw[lJ];exact q2,hk4 _ ⟨rfl,rfl,rfl,hs.symm⟩⟩
     ·have h6':¬(pp p left right n).length<=6:=fun h=>h6 (Int.ofNat_le.2 h);rw[ds (fun h=>h6' h.2)]at hs;exact hk4 _ ⟨rfl,rfl,rfl,hs.symm⟩
   ·have hb':¬zt s p left n=true:=fun h=>by unfold zt at h;rw[hb]at h;cases h
    rw[ds (fun h=>hb' h.1)]at hs;exact hk _ ⟨rfl,rfl,rfl,hs.symm⟩
 ·have en:n=p.2.length+1:=by omega
  subst en;show qk _ _ _ _ _ _ _ _ _=qk _ _ _ _ _ _ _ _ _;rfl
theorem yn:bz Tryz.prog 113 tv:=bjz (Φ:=agp) (ai sv (ai ayi (ai pc ao))) bm (by kernel_rfl) (fn:=Tryz.f113) (c:=bg Tryz.f113) (by kernel_rfl) (by kernel_rfl) (by kernel_rfl) ij ag0 (cu [(6,19),(7,2011),(11,9)]) (by kernel_rfl) (by kernel_rfl) (by kernel_rfl) (by kernel_rfl) (by kernel_rfl) (by decide) (by kernel_rfl) (fun x y h1 h2 h3=>Eq.mp (by kernel_rfl) (ah5 x y.1 y.2.1 y.2.2.1 y.2.2.2.1 y.2.2.2.2.1 h1 h2 h3))
def uk:List Int->List Int->Bool
 |_,[]=>false
 |[],_::_=>true
 |x::a,y::b=>if x=y then uk a b else decide (x<y)
def ma:Ct:=⟨[(.sl (.int .i64)),(.sl (.int .i64))],[false,false],fun x=>[],[(false,(.fz .bool))],fun x=>(uk x.1 x.2.1,()),false,none⟩
def aqp:Ann:=(.s .n (.s (.s .n (.l [(5,(.d (.int .i64)))] [] [0,1] .n)) .n))
def abm(a:List Int)(b:List Int)(K:Bool×Unit->Prop):Prop:=(be (S:=bpd) (fun s=>(fun next=>((inK .i64 s.1.1)->(cnd ((decide (s.1.1<((a.length:Nat):Int)))&&(decide (s.1.1<((b.length:Nat):Int)))) ((0<=s.1.1)/\((s.1.1<((a.length:Nat):Int))/\((0<=s.1.1)/\((s.1.1<((b.length:Nat):Int))/\(cnd ((a.getD s.1.1.toNat 0) != (b.getD s.1.1.toNat 0)) ((0<=s.1.1)/\((s.1.1<((a.length:Nat):Int))/\((0<=s.1.1)/\((s.1.1<((b.length:Nat):Int))/\(K ((decide ((a.getD s.1.1.toNat 0)<(b.getD s.1.1.toNat 0))),())))))) ((inK .i64 (s.1.1+1))/\(next (((s.1.1+1),()),())))))))) (K ((decide (((a.length:Nat):Int)<((b.length:Nat):Int))),())))))) ((0,()),()))
theorem atm(a:List Int)(b:List Int)(hok:ae (okL ma.args (a,b,())))(hpre:ae (ma.pre (a,b,()))):abm a b (fun r=>r=ma.res (a,b,())):=by
 simp only[ma,okL,T.oks,T.ok,ap,ae,a0e,a0c,a0i]at hok hpre
 try dsimp only[T.den]at hok hpre
 unfold abm;have h1:a.length<=140737488355328:=by simp only[cj]at hok;omega
 clear hok hpre;refine br (fun (s:bpd)=>0<=s.1.1/\s.1.1<=a.length/\s.1.1<=b.length/\uk a b=uk (a.drop s.1.1.toNat) (b.drop s.1.1.toNat)) (fun (s:bpd)=>(a.length-s.1.1).toNat) ?_ ⟨by simp,by simp,by simp,by simp⟩;rintro⟨⟨i,_⟩,_⟩ next ⟨h0,h2,h3,h4⟩ hn _
 try dsimp only at h0 h2 h3 h4 hn⊢
 refine bc (fun hc=>?_) (fun hc=>?_)
 ·simp only[a0a,a04]at hc;rw[ny a 0 h0 hc.1,ny b 0 h0 hc.2,uk]at h4;refine⟨h0,hc.1,h0,hc.2,bc (fun hd=>⟨h0,hc.1,h0,hc.2,?_⟩) (fun hd=>⟨by rw[al];(try dsimp only);omega,?_⟩)⟩
  ·rw[ds (by simpa using hd)]at h4;simp only[ma,h4]
  ·rw[d0 (by simpa using hd)]at h4;exact hn _ ⟨by dsimp only;omega,by dsimp only;omega,by dsimp only;omega,h4⟩ (by dsimp only;omega)
 ·simp only[Bool.and_eq_false_iff,a2j]at hc;simp only[ma,h4];by_cases hb:i<b.length
  ·have ha:¬i<a.length:=by rcases hc with h|h <;> omega
   rw[qr a (by omega),ny b 0 h0 hb,uk,decide_eq_true (by omega:(a.length:Int)<b.length)]
  ·rw[qr b (by omega),decide_eq_false (by omega:¬(a.length:Int)<b.length)];cases a.drop i.toNat <;> rfl
theorem ase:bz Tryz.prog 107 ma:=ci (Φ:=lkp []) ao bm (by kernel_rfl) (fn:=Tryz.f107) (c:=bg Tryz.f107) (by kernel_rfl) (by kernel_rfl) (by kernel_rfl) ma rfl aqp (cu [(4,8),(5,8)]) (by kernel_rfl) (by kernel_rfl) (by kernel_rfl) (by decide) (fun x K=>abm x.1 x.2.1 K) (fun _ _=>by kernel_rfl) (fun x h1 h2=>atm x.1 x.2.1 h1 h2)
def ub(s:ab)(p q:ac):Bool:=uk (p.1::gu s p::(p.2.length:Int)::p.2) (q.1::gu s q::(q.2.length:Int)::q.2)
def pb:Ct:=⟨[SchemaT,PathT,PathT],[true,true,true],fun x=>[bh x.2.1.2 x.1.2.2.1.length=true,bh x.2.2.1.2 x.1.2.2.1.length=true,x.2.1.2.length<=1000000,x.2.2.1.2.length<=1000000],[(false,(.fz .bool))],fun x=>(ub x.1 x.2.1 x.2.2.1,()),false,none⟩
def aqh:FuncId->Option Ct:=lkp [(107,ma),(66,ju)]
def aci(s:ab)(p:ac)(q:ac)(K:Bool×Unit->Prop):Prop:=(((bh p.2 ((s.2.2.1.length:Nat):Int))=true)/\((dz (List.length (p.1::((gu s p)::(((p.2.length:Nat):Int)::[])))) p.2.length 8)/\(((bh q.2 ((s.2.2.1.length:Nat):Int))=true)/\((dz (List.length (q.1::((gu s q)::(((q.2.length:Nat):Int)::[])))) q.2.length 8)/\(K ((uk ((p.1::((gu s p)::(((p.2.length:Nat):Int)::[])))++p.2) ((q.1::((gu s q)::(((q.2.length:Nat):Int)::[])))++q.2)),()))))))
theorem ati(s:ab)(p:ac)(q:ac)(hok:ae (okL pb.args (s,p,q,())))(hpre:ae (pb.pre (s,p,q,()))):aci s p q (fun r=>r=pb.res (s,p,q,())):=by
 simp only[pb,okL,T.oks,T.ok,ap,ae,a0e,a0c,a0i]at hok hpre
 try dsimp only[T.den]at hok hpre
 unfold aci;obtain⟨h1,h2,h3,h4⟩:=hpre;exact⟨h1,da (by simp only[a0l,a0p];omega),h2,da (by simp only[a0l,a0p];omega),rfl⟩
theorem ar6:bz Tryz.prog 87 pb:=ci (Φ:=aqh) (ai ase (ai yg ao)) bm (by kernel_rfl) (fn:=Tryz.f87) (c:=bg Tryz.f87) (by kernel_rfl) (by kernel_rfl) (by kernel_rfl) pb rfl .n (cu [(1,511),(2,511)]) (by kernel_rfl) (by kernel_rfl) (by kernel_rfl) (by decide) (fun x K=>aci x.1 x.2.1 x.2.2.1 K) (fun _ _=>by kernel_rfl) (fun x h1 h2=>ati x.1 x.2.1 x.2.2.1 h1 h2)
def io(s:ab)(p:ac)(n:Nat):List ac:=((dv n fun e=>e).filter fun e=>s.2.1.getD e.toNat 0==gu s p).map fun e=>(p.1,p.2++[e])
def gb(s:ab):Nat->Nat->List ac->List ac×Bool
 |0,_,l=>(l,true)
 |u+1,k,l=>if k<l.length then (if (l.getD k (0,[])).2.length=6 then gb s u (k+1) l else if 400<(l++io s (l.getD k (0,[])) s.2.1.length).length then ([],false)else gb s u (k+1) (l++io s (l.getD k (0,[])) s.2.1.length))else (l,true)
def d8(n:Int):List ac:=dv n.toNat fun x=>(x,[])
def tq(lt:ac->ac->Bool)(x:ac):List ac->List ac
 |[]=>[x]
 |y::r=>if lt x y then y::tq lt x r else x::y::r
def aa2(lt:ac->ac->Bool)(l:List ac):List ac:=l.foldl (fun a x=>tq lt x a) []
def wu(lt:ac->ac->Bool)(l:List ac):List ac:=(aa2 lt l).reverse
def cg(s:ab):List ac×Bool:=if (gb s 402 0 (d8 s.1)).2=true then (wu (ub s) (gb s 402 0 (d8 s.1)).1,true)else ([],false)
theorem awd{s:ab}{p:ac}{e:Int}(h:0<=e):io s p (e+1).toNat=io s p e.toNat++(if (s.2.1.getD e.toNat 0==gu s p)=true then [(p.1,p.2++[e])]else []):=by unfold io;rw[uw h,List.filter_append,a28];split <;> rename_i h1 <;> simp only[List.filter_cons,h1,a03,if_false,List.filter_nil,a1h,a2i,a01]
theorem blz{s:ab}{p:ac}{n:Nat}:(io s p n).length<=n:=by unfold io;rw[a0y];exact a1a (List.length_filter_le _ _) (Nat.le_of_eq (bj n))
def as8(s:ab)(p:ac):Prop:=p.2.length<=6/\bh p.2 s.2.2.1.length=true
theorem bml{s:ab}{p q:ac}(hl:s.2.2.1.length=s.2.1.length)(hp:as8 s p)(h6:¬p.2.length=6){n:Nat}(hn:n<=s.2.1.length)(h:q∈io s p n):as8 s q:=by unfold io at h;obtain⟨e,he,rfl⟩:=a2c.1 h;obtain⟨he,_⟩:=a38.1 he;obtain⟨_,h0,h1,rfl⟩:=ph.1 he;refine⟨by have:=hp.1;rw[a0q];simp only[a0l,a0p];omega,?_⟩;have h2:=hp.2;unfold bh at h2⊢;rw[a4o,h2,hl];simp only[a3m,List.all_nil,a0j,a1x,inR,a0a,a04];omega
theorem bba{lt:ac->ac->Bool}{x:ac}:∀l:List ac,(tq lt x l).length=l.length+1
 |[]=>rfl
 |y::r=>by unfold tq;split <;> simp only[a0l,bba r]
theorem bmv{lt:ac->ac->Bool}{l:List ac}{i:Int}(h0:0<=i)(h1:i<l.length):aa2 lt (l.take (i+1).toNat)=tq lt (l.getD i.toNat (0,[])) (aa2 lt (l.take i.toNat)):=by unfold aa2;rw[mt l (0,[]) h0 h1,a3c];rfl
theorem azr{lt:ac->ac->Bool}:∀(l a:List ac),(l.foldl (fun a x=>tq lt x a) a).length=a.length+l.length
 |[],a=>rfl
 |x::l,a=>by rw[a12,azr l,bba,a0l];omega
theorem axg{lt:ac->ac->Bool}(l:List ac):(aa2 lt l).length=l.length:=by unfold aa2;rw[azr];exact a1z _
theorem asx{lt:ac->ac->Bool}{x z:ac}:∀l:List ac,z∈tq lt x l->z=x\/z∈l
 |[],h=>.inl (a0x.1 h)
 |y::r,h=>by
  unfold tq at h;split at h
  ·rcases a0u.1 h with h|h
   ·exact .inr (h▸a3a ..)
   ·rcases asx r h with h|h
    ·exact .inl h
    ·exact .inr (a2y _ h)
  ·rcases a0u.1 h with h|h
   ·exact .inl h
   ·exact .inr h
theorem axk{lt:ac->ac->Bool}{z:ac}:∀(l a:List ac),z∈l.foldl (fun a x=>tq lt x a) a->z∈a\/z∈l
 |[],a,h=>.inl h
 |x::l,a,h=>by
  rcases axk l _ h with h|h
  ·rcases asx a h with h|h
   ·exact .inr (h▸a3a ..)
   ·exact .inl h
  ·exact .inr (a2y _ h)
def ahp(lt:ac->ac->Bool)(l:List ac)(i:Int):List ac:=(aa2 lt (l.take i.toNat)).reverse++l.drop i.toNat
theorem blw{lt:ac->ac->Bool}(l:List ac)(i:Int):(ahp lt l i).length=l.length:=by unfold ahp;rw[a0q,a43,axg,a1c,a1n];omega
theorem bn4{lt:ac->ac->Bool}(l:List ac):ahp lt l 1=l:=by cases l <;> rfl
theorem boj{lt:ac->ac->Bool}{l:List ac}{i:Int}(h:(l.length:Int)<=i):ahp lt l i=wu lt l:=by unfold ahp wu;rw[qv l h,a4l (by omega),a2l]
theorem ba4{α:Type}{d x:α}{t:List α}:∀p:List α,(p++x::t).getD p.length d=x
 |[]=>rfl
 |_::p=>by simp
theorem bib{α:Type}{d x y:α}{t:List α}:∀p:List α,(p++y::x::t).getD (p.length+1) d=x
 |[]=>rfl
 |_::p=>by simp
theorem bi6{α:Type}{x y:α}{t:List α}:∀p:List α,((p++y::x::t).set (p.length+1) y).set p.length x=p++x::y::t
 |[]=>rfl
 |a::p=>by simp
theorem atc{α:Type}{l m:List α}{d:α}{k:Nat}(h:k<l.length):(l++m).getD k d=l.getD k d:=by rw[a0o,a0o,a1e h]
def kr:Ct:=⟨[SchemaT],[true],fun x=>[0<=x.1.1,x.1.1<=400,x.1.2.1.length<=1000000,x.1.2.2.1.length=x.1.2.1.length],[(false,(.fz (.sl PathT))),(false,(.fz .bool))],fun x=>((cg x.1).1,(cg x.1).2,()),true,none⟩
def ao3:Ann:=(.s .n (.j [(1,(.ad 1 [.de])),(4,(.ref 800004 []))] [(1,(.pt (.fz (.p (.int .i64) (.p (.sl (.int .i64)) (.p (.sl (.int .i64)) (.p (.sl (.p (.int .i64) (.sl (.int .i64)))) (.sl (.p (.int .i64) (.sl (.int .i64))))))))))),(800004,(.sl (.fz (.p (.int .i64) (.sl (.int .i64))))))] [] (.s .n (.s (.s .n (.l [(4,(.ref 800004 [])),(5,(.d (.int .i64)))] [(800004,(.sl (.fz (.p (.int .i64) (.sl (.int .i64))))))] [1] .n)) (.s (.s .n (.l [(4,(.ref 800004 [])),(6,(.d (.int .i64)))] [(800004,(.sl (.fz (.p (.int .i64) (.sl (.int .i64))))))] [1] (.s .n (.s (.j [(4,(.ref 800004 []))] [(800004,(.sl (.fz (.p (.int .i64) (.sl (.int .i64))))))] [1,6] (.s .n (.s (.s .n (.l [(4,(.ref 800004 [])),(7,(.d (.int .i64)))] [(800004,(.sl (.fz (.p (.int .i64) (.sl (.int .i64))))))] [1,6] (.s .n (.s (.s .n (.j [(4,(.ref 800004 []))] [(800004,(.sl (.fz (.p (.int .i64) (.sl (.int .i64))))))] [1,6,7] .n)) .n)))) .n))) .n)))) (.s (.s .n (.l [(4,(.ref 800004 [])),(8,(.d (.int .i64)))] [(800004,(.sl (.fz (.p (.int .i64) (.sl (.int .i64))))))] [1] (.s .n (.s (.s .n (.l [(4,(.ref 800004 [])),(9,(.d (.int .i64)))] [(800004,(.sl (.fz (.p (.int .i64) (.sl (.int .i64))))))] [1,8] .n)) .n)))) .n))))))
def apq:FuncId->Option Ct:=lkp [(58,m8),(66,ju),(87,pb)]
def aav(s:ab)(K:(List ac)×Bool×Unit->Prop):Prop:=(ic (S:=bpr) (fun s1=>((inK .i64 s1.2.1.1)->((T.ok (.sl (.int .i64)) s1.2.1.2.1)->((T.ok (.sl (.int .i64)) s1.2.1.2.2.1)->((T.ok (.sl PathT) s1.2.1.2.2.2.1)->((T.ok (.sl PathT) s1.2.1.2.2.2.2)->((T.ok (.sl PathT) s1.2.2.1)->(be (S:=bpc) (fun s2=>(fun next=>((inK .i64 s2.1.2.1)->((T.ok (.sl PathT) s2.2.1)->(cnd (decide (s2.1.2.1<s1.2.1.1)) ((dz s2.2.1.length (List.length ((s2.1.2.1,[])::([]:List bo9))) 32)/\((inK .i64 (s2.1.2.1+1))/\(next (((),((s2.1.2.1+1),())),((s2.2.1++((s2.1.2.1,[])::([]:List bo9))),()))))) (be (S:=bpc) (fun s3=>(fun next1=>((inK .i64 s3.1.2.1)->((T.ok (.sl PathT) s3.2.1)->(cnd (decide (s3.1.2.1<((s3.2.1.length:Nat):Int))) (ic (S:=bpg) (fun s4=>((T.ok (.sl PathT) s4.2.1)->((inK .i64 (s3.1.2.1+1))/\(next1 (((),((s3.1.2.1+1),())),(s4.2.1,())))))) (fun k=>((0<=s3.1.2.1)/\((s3.1.2.1<((s3.2.1.length:Nat):Int))/\(cnd ((((List.length (s3.2.1.getD s3.1.2.1.toNat (0,[])).2):Nat):Int)==6) (k (((),()),(s3.2.1,()))) (be (S:=bpc) (fun s4=>(fun next2=>((inK .i64 s4.1.2.1)->((T.ok (.sl PathT) s4.2.1)->(cnd (decide (s4.1.2.1<((s1.2.1.2.1.length:Nat):Int))) ((0<=s4.1.2.1)/\((s4.1.2.1<((s1.2.1.2.1.length:Nat):Int))/\((0<=s3.1.2.1)/\((s3.1.2.1<((s4.2.1.length:Nat):Int))/\(((bh (s4.2.1.getD s3.1.2.1.toNat (0,[])).2 ((s1.2.1.2.2.1.length:Nat):Int))=true)/\(ic (S:=bpg) (fun s5=>((T.ok (.sl PathT) s5.2.1)->((inK .i64 (s4.1.2.1+1))/\(next2 (((),((s4.1.2.1+1),())),(s5.2.1,())))))) (fun k1=>(cnd ((s1.2.1.2.1.getD s4.1.2.1.toNat 0)==(gu s1.2.1 (s4.2.1.getD s3.1.2.1.toNat (0,[])))) ((0<=s3.1.2.1)/\((s3.1.2.1<((s4.2.1.length:Nat):Int))/\((0<=s3.1.2.1)/\((s3.1.2.1<((s4.2.1.length:Nat):Int))/\(((List.length (s4.2.1.getD s3.1.2.1.toNat (0,[])).2)<=1099511627776)/\((dz (List.length (s4.2.1.getD s3.1.2.1.toNat (0,[])).2) (List.length (s4.1.2.1::[])) 8)/\((dz s4.2.1.length (List.length (((s4.2.1.getD s3.1.2.1.toNat (0,[])).1,((s4.2.1.getD s3.1.2.1.toNat (0,[])).2++(s4.1.2.1::[])))::([]:List bo9))) 32)/\(k1 (((),()),((s4.2.1++(((s4.2.1.getD s3.1.2.1.toNat (0,[])).1,((s4.2.1.getD s3.1.2.1.toNat (0,[])).2++(s4.1.2.1::[])))::([]:List bo9))),())))))))))) (k1 (((),()),(s4.2.1,()))))))))))) (cnd (decide (400<((s4.2.1.length:Nat):Int))) (K (([]:List bo9),(false,()))) (k (((),()),(s4.2.1,()))))))))) (((),(0,())),(s3.2.1,())))))))) (be (S:=bpc) (fun s4=>(fun next2=>((inK .i64 s4.1.2.1)->((T.ok (.sl PathT) s4.2.1)->(cnd (decide (s4.1.2.1<((s4.2.1.length:Nat):Int))) (be (S:=bpc) (fun s5=>(fun next3=>((inK .i64 s5.1.2.1)->((T.ok (.sl PathT) s5.2.1)->((((decide (0<s5.1.2.1))=true)->((s5.1.2.1<((s5.2.1.length:Nat):Int))/\(0<=s5.1.2.1)))/\((((decide (0<s5.1.2.1))=true)->(inK .i64 (s5.1.2.1-1)))/\((((decide (0<s5.1.2.1))=true)->(((s5.1.2.1-1)<((s5.2.1.length:Nat):Int))/\(0<=(s5.1.2.1-1))))/\((((decide (0<s5.1.2.1))=true)->(((bh (s5.2.1.getD (Int.toNat (s5.1.2.1-1)) (0,[])).2 ((s1.2.1.2.2.1.length:Nat):Int))=true)/\(((List.length (s5.2.1.getD s5.1.2.1.toNat (0,[])).2)<=1000000)/\(((List.length (s5.2.1.getD (Int.toNat (s5.1.2.1-1)) (0,[])).2)<=1000000)/\((bh (s5.2.1.getD s5.1.2.1.toNat (0,[])).2 ((s1.2.1.2.2.1.length:Nat):Int))=true)))))/\(cnd ((decide (0<s5.1.2.1))&&(ub s1.2.1 (s5.2.1.getD s5.1.2.1.toNat (0,[])) (s5.2.1.getD (Int.toNat (s5.1.2.1-1)) (0,[])))) ((0<=s5.1.2.1)/\((s5.1.2.1<((s5.2.1.length:Nat):Int))/\((inK .i64 (s5.1.2.1-1))/\((0<=(s5.1.2.1-1))/\(((s5.1.2.1-1)<((s5.2.1.length:Nat):Int))/\((0<=s5.1.2.1)/\((s5.1.2.1<((s5.2.1.length:Nat):Int))/\((inK .i64 (s5.1.2.1-1))/\((0<=(s5.1.2.1-1))/\(((s5.1.2.1-1)<(((List.length (List.set s5.2.1 s5.1.2.1.toNat (s5.2.1.getD (Int.toNat (s5.1.2.1-1)) (0,[])))):Nat):Int))/\((inK .i64 (s5.1.2.1-1))/\(next3 (((),((s5.1.2.1-1),())),((List.set (List.set s5.2.1 s5.1.2.1.toNat (s5.2.1.getD (Int.toNat (s5.1.2.1-1)) (0,[]))) (Int.toNat (s5.1.2.1-1)) (s5.2.1.getD s5.1.2.1.toNat (0,[]))),())))))))))))))) ((inK .i64 (s4.1.2.1+1))/\(next2 (((),((s4.1.2.1+1),())),(s5.2.1,()))))))))))))) (((),(s4.1.2.1,())),(s4.2.1,()))) (K (s4.2.1,(true,())))))))) (((),(1,())),(s3.2.1,())))))))) (((),(0,())),(s2.2.1,())))))))) (((),(0,())),(s1.2.2.1,())))))))))) (fun k=>(k (((),((),())),(s,(([]:List bo9),()))))))
theorem ary(s:ab)(hok:ae (okL kr.args (s,())))(hpre:ae (kr.pre (s,()))):aav s (fun r=>r=kr.res (s,())):=by
 simp only[kr,okL,T.oks,T.ok,ap,ae,a0e,a0c,a0i]at hok hpre
 try dsimp only[T.den]at hok hpre
 unfold aav;obtain⟨n0,n8,hf,ht⟩:=hpre;refine g6 (fun (q:bpr)=>q.2.1=s/\q.2.2.1=[]) ?_ (fun k hk=>hk _ ⟨rfl,rfl⟩);rintro⟨_,sc,l0,_⟩ ⟨e0,e1⟩;intros
 try dsimp only at e0 e1⊢
 subst e0;subst e1;refine br (fun (q:bpc)=>0<=q.1.2.1/\q.1.2.1<=sc.1/\q.2.1=d8 q.1.2.1) (fun (q:bpc)=>(sc.1-q.1.2.1).toNat) ?_ ⟨by simp,n0,rfl⟩;rintro⟨⟨_,x,_⟩,l,_⟩ next ⟨x0,x1,q⟩ hnx
 intros
 try dsimp only at x0 x1 q hnx⊢
 subst q;have zl:(d8 x).length=x.toNat:=bj _;refine aq (fun hx=>?_) (fun hx=>?_)
 ·refine⟨da (by rw[zl];simp only[a0l,a0p];omega),by rw[al];(try dsimp only);omega,hnx _ ⟨by dsimp only;omega,by dsimp only;omega,?_⟩ (by dsimp only;omega)⟩
  try dsimp only
  unfold d8;rw[uw x0]
 have ex:x=sc.1:=by omega
 subst ex;clear hnx;have hz0:∀p∈d8 sc.1,as8 sc p:=by intro p hp;unfold d8 at hp;obtain⟨e,h0,h1,rfl⟩:=ph.1 hp;exact⟨by simp,rfl⟩
 refine br (fun (q:bpc)=>0<=q.1.2.1/\q.1.2.1<=400/\gb sc 402 0 (d8 sc.1)=gb sc (402-q.1.2.1).toNat q.1.2.1.toNat q.2.1/\(∀p∈q.2.1,as8 sc p)/\q.2.1.length<=400) (fun (q:bpc)=>(400-q.1.2.1).toNat) ?_ ⟨by simp,by simp,rfl,hz0,by dsimp only;omega⟩;rintro⟨⟨_,k,_⟩,L,_⟩ next ⟨k0,k41,hg,hp,hL⟩ hnx
 intros
 try dsimp only at k0 k41 hg hp hL hnx⊢
 refine aq (fun hc=>?_) (fun hc=>?_)
 ·have hpk:=hp _ (im L (0,[]) k0 hc);have hgk:gb sc 402 0 (d8 sc.1)=(if (L.getD k.toNat (0,[])).2.length=6 then gb sc (402-(k+1)).toNat (k+1).toNat L else if 400<(L++io sc (L.getD k.toNat (0,[])) sc.2.1.length).length then ([],false)else gb sc (402-(k+1)).toNat (k+1).toNat (L++io sc (L.getD k.toNat (0,[])) sc.2.1.length)):=by rw[hg,show (402-k).toNat=(402-(k+1)).toNat+1 from by omega,show (k+1).toNat=k.toNat+1 from by omega];rw[gb,d0 (by omega)]
  refine g6 (fun (q:bpg)=>gb sc 402 0 (d8 sc.1)=gb sc (402-(k+1)).toNat (k+1).toNat q.2.1/\(∀p∈q.2.1,as8 sc p)/\q.2.1.length<=400) ?_ ?_
  ·rintro⟨_,M,_⟩ ⟨m1,m2,m3⟩;intros
   try dsimp only at m1 m2 m3⊢
   exact⟨by rw[al];(try dsimp only);omega,hnx _ ⟨by dsimp only;omega,by dsimp only;omega,m1,m2,m3⟩ (by dsimp only;omega)⟩
  intro kk hkk;generalize hP:L.getD k.toNat (0,[])=P at *;refine⟨k0,hc,bc (fun h6=>?_) (fun h6=>?_)⟩
  ·have h6:P.2.length=6:=by have:=a1s h6;omega
   rw[d0 h6]at hgk;exact hkk _ ⟨hgk,hp,hL⟩
  have h6:¬P.2.length=6:=by have:=a17.1 h6;omega
  rw[ds h6]at hgk;refine br (fun (q:bpc)=>0<=q.1.2.1/\q.1.2.1<=sc.2.1.length/\q.2.1=L++io sc P q.1.2.1.toNat) (fun (q:bpc)=>(sc.2.1.length-q.1.2.1).toNat) ?_ ⟨by simp,by simp,by simp[io,dv]⟩;rintro⟨⟨_,e,_⟩,M,_⟩ next1 ⟨e0,e1,q⟩ hn1;intros
  try dsimp only at e0 e1 q hn1⊢
  subst q;have hM:(L++io sc P e.toNat).length<=400+sc.2.1.length:=by rw[a0q];have:=@blz sc P e.toNat;omega
  have hMk:k<(L++io sc P e.toNat).length:=by rw[a0q];omega
  have hG:(L++io sc P e.toNat).getD k.toNat (0,[])=P:=by rw[atc (by omega),hP]
  have hE:=@awd sc P e e0;rw[hG];refine aq (fun he=>?_) (fun he=>?_)
  ·refine⟨e0,he,k0,hMk,hpk.2,g6 (fun (q:bpg)=>q.2.1=L++io sc P (e+1).toNat) ?_ ?_⟩
   ·rintro⟨_,M2,_⟩ q2;intros
    try dsimp only at q2⊢
    subst q2;exact⟨by rw[al];(try dsimp only);omega,hn1 _ ⟨by dsimp only;omega,by dsimp only;omega,rfl⟩ (by dsimp only;omega)⟩
   ·intro k1 hk1;rw[hE]at hk1;have hp6:=hpk.1;refine bc (fun hb=>?_) (fun hb=>?_)
    ·rw[d0 hb]at hk1;exact⟨k0,hMk,k0,hMk,by omega,da (by simp only[a0l,a0p];omega),da (by simp only[a0l,a0p];omega),hk1 _ (a06 _ _ _)⟩
    ·rw[ds (by rw[hb];decide),a2l]at hk1;exact hk1 _ rfl
  ·have ee:e=sc.2.1.length:=by omega
   subst ee;rw[a0m];refine aq (fun h4=>?_) (fun h4=>?_)
   ·rw[d0 (by omega)]at hgk;simp only[kr,cg];rw[hgk,ds (by decide)]
   ·rw[ds (by omega)]at hgk;refine hkk _ ⟨hgk,fun p hp'=>?_,by dsimp only;omega⟩;rcases a1m.1 hp' with h|h
    ·exact hp p h
    ·exact bml ht hpk h6 (a0f _) h
 ·have hgl:gb sc 402 0 (d8 sc.1)=(L,true):=by rw[hg,show (402-k).toNat=(401-k).toNat+1 from by omega,gb,ds (by omega)]
  clear hnx;simp only[kr,cg];rw[hgl,d0 rfl]
  try dsimp only
  generalize hlt:ub sc=lt at *;refine br (fun (q:bpc)=>1<=q.1.2.1/\q.2.1=ahp lt L q.1.2.1) (fun (q:bpc)=>(L.length-q.1.2.1).toNat) ?_ ⟨by simp,(bn4 L).symm⟩;rintro⟨⟨_,i,_⟩,A,_⟩ next1 ⟨i0,q⟩ hn1;intros
  try dsimp only at i0 q hn1⊢
  subst q;rw[blw];refine aq (fun hi=>?_) (fun hi=>?_)
  ·have hs:=bmv (lt:=lt) (l:=L) (i:=i) (by omega) hi;have hd:L.drop i.toNat=L.getD i.toNat (0,[])::L.drop (i+1).toNat:=ny L (0,[]) (by omega) hi;have ha:ahp lt L (i+1)=(tq lt (L.getD i.toNat (0,[])) (aa2 lt (L.take i.toNat))).reverse++L.drop (i+1).toNat:=by unfold ahp;rw[hs]
   have hl:(aa2 lt (L.take i.toNat)).length=i.toNat:=by rw[axg,a1c];omega
   have hA:ahp lt L i=(aa2 lt (L.take i.toNat)).reverse++L.getD i.toNat (0,[])::L.drop (i+1).toNat:=by unfold ahp;rw[hd]
   have hX:=hp _ (im L (0,[]) (i:=i) (by omega) hi)
   have hRm:∀z∈aa2 lt (L.take i.toNat),as8 sc z:=fun z hz=>by
    rcases axk _ _ hz with h|h
    ·cases h
    ·exact hp z (List.mem_of_mem_take h)
   rw[hA];generalize L.getD i.toNat (0,[])=X at *;generalize aa2 lt (L.take i.toNat)=R at *;generalize L.drop (i+1).toNat=Q at *;refine br (fun (q:bpc)=>∃R1 R2,R=R1++R2/\(R2.length:Int)=q.1.2.1/\tq lt X R=R1++tq lt X R2/\q.2.1=R2.reverse++X::(R1.reverse++Q)) (fun (q:bpc)=>q.1.2.1.toNat) ?_ ⟨[],R,rfl,by dsimp only;omega,rfl,rfl⟩;rintro⟨⟨_,k,_⟩,B,_⟩ next2 ⟨R1,R2,r1,r2,r3,r4⟩ hn2;intros
   try dsimp only at r1 r2 r3 r4 hn2⊢
   subst r4
   cases R2 with
   |nil=>
    have ek:k=0:=by simpa using r2.symm
    subst ek;refine⟨fun h=>by simp at h,fun h=>by simp at h,fun h=>by simp at h,fun h=>by simp at h,bc (fun h=>by simp at h) (fun _=>⟨by rw[al];(try dsimp only);omega,hn1 _ ⟨by dsimp only;omega,?_⟩ (by dsimp only;omega)⟩)⟩
    try dsimp only
    rw[ha,r3];simp[tq]
   |cons Y R2=>
    simp only[a0l]at r2;have hr:R1.length+(R2.length+1)=i.toNat:=by rw[←hl,r1];simp
    have hY:=hRm Y (by rw[r1];simp);have e1:(Y::R2).reverse++X::(R1.reverse++Q)=R2.reverse++Y::X::(R1.reverse++Q):=by simp
    rw[e1];have hk:k.toNat=R2.reverse.length+1:=by rw[a43];omega
    have hk1:(k-1).toNat=R2.reverse.length:=by rw[a43];omega
    rw[hk,hk1,ba4,bib,bi6];have hlen:((R2.reverse++Y::X::(R1.reverse++Q)).length:Int)=R2.length+2+R1.length+Q.length:=by simp;omega
    have hlen2:(((R2.reverse++Y::X::(R1.reverse++Q)).set (R2.reverse.length+1) Y).length:Int)=R2.length+2+R1.length+Q.length:=by rw[a1i];exact hlen
    have hk63:inK .i64 (k-1):=by rw[al];(try dsimp only);omega
    have y6:=hY.1;have x6:=hX.1;refine⟨fun _=>⟨by omega,by omega⟩,fun _=>hk63,fun _=>⟨by omega,by omega⟩,fun _=>⟨hY.2,by omega,by omega,hX.2⟩,bc (fun h=>?_) (fun h=>?_)⟩
    ·simp only[a0a,a04]at h;refine⟨by omega,by omega,hk63,by omega,by omega,by omega,by omega,hk63,by omega,by omega,hk63,hn2 _ ⟨R1++[Y],R2,by simp[r1],by dsimp only;omega,?_,?_⟩ (by dsimp only;omega)⟩
     ·rw[r3];simp[tq,h.2]
     ·simp
    ·have hb:lt X Y=false:=by
      rcases Bool.and_eq_false_iff.1 h with h|h
      ·simp only[a2j]at h;omega
      ·exact h
     refine⟨by rw[al];(try dsimp only);omega,hn1 _ ⟨by dsimp only;omega,?_⟩ (by dsimp only;omega)⟩
     try dsimp only
     rw[ha,r3];simp[tq,hb]
  ·rw[boj (by omega)]
theorem ao0:bz Tryz.prog 67 kr:=ci (Φ:=apq) (ai abu (ai yg (ai ar6 ao))) bm (by kernel_rfl) (fn:=Tryz.f67) (c:=bg Tryz.f67) (by kernel_rfl) (by kernel_rfl) (by kernel_rfl) kr rfl ao3 (cu [(21,13),(13,11),(14,8000055014)]) (by kernel_rfl) (by kernel_rfl) (by kernel_rfl) (by decide) (fun x K=>aav x.1 K) (fun _ _=>by kernel_rfl) (fun x h1 h2=>ary x.1 h1 h2)
def bw(s:ab):List ac×Bool:=gb s 402 0 (d8 s.1)
theorem an9(s:ab)(e:Int):∀(nd:Int) (l:List Int),(bf s nd l).2=true->0<=e->e<s.2.1.length->s.2.1.getD e.toNat 0=(bf s nd l).1->(bf s nd (l++[e])).2=true
 |nd,[],_,e0,e1,h2=>by simp only[bf]at h2;simp only[a2u,bf];rw[d0 ⟨ov.2 ⟨e0,by omega⟩,h2⟩]
 |nd,x::r,h,e0,e1,h2=>by
  simp only[bf]at h h2;simp only[a2p,bf];split at h
  ·rename_i hc;rw[d0 hc]at h2⊢;exact an9 s e _ r h e0 e1 h2
  ·cases h
theorem ap8{s:ab}{p:ac}{e:Int}(h:(aw s p).2=true)(h6:¬p.2.length=6)(e0:0<=e)(e1:e<s.2.1.length)(h2:s.2.1.getD e.toNat 0=(aw s p).1):(aw s (p.1,p.2++[e])).2=true:=by
 unfold aw at h h2⊢;split at h
 ·rename_i hc;rw[d0 hc]at h2;rw[d0 ⟨hc.1,by have:=hc.2;rw[a0q];simp only[a0l,a0p];omega⟩];exact an9 s e _ _ h e0 e1 h2
 ·cases h
theorem axf{s:ab}{p:ac}{a:Nat}:∀{b:Nat},a<=b->(io s p a).length<=(io s p b).length
 |0,h=>by rw[Nat.le_zero.1 h];exact a0f _
 |b+1,h=>by
  rcases a1l b a with h1|h1
  ·rw[show a=b+1 from by omega];exact a0f _
  ·refine a1a (axf h1) ?_;have:=@awd s p (b:Int) (Int.natCast_nonneg b);rw[show ((b:Int)+1).toNat=b+1 from by omega,a0m]at this;rw[this,a0q];omega
theorem asr{s:ab}{p q:ac}(hp:(aw s p).2=true)(h6:¬p.2.length=6){n:Nat}(hn:n<=s.2.1.length)(h:q∈io s p n):(aw s q).2=true:=by unfold io at h;obtain⟨e,he,rfl⟩:=a2c.1 h;obtain⟨he,hb⟩:=a38.1 he;obtain⟨_,h0,h1,rfl⟩:=ph.1 he;exact ap8 hp h6 h0 (by omega) ((a1s hb).trans (ii hp).1)
theorem x7{s:ab}{p:ac}(h:(aw s p).2=true):p.2.length<=6:=by
 unfold aw at h;split at h
 ·rename_i hc;exact hc.2
 ·cases h
theorem adi{s:ab}{x:Int}(h0:0<=x)(h1:x<s.1):(aw s (x,[])).2=true:=by unfold aw;rw[d0 ⟨ov.2 ⟨h0,by dsimp only;omega⟩,by simp⟩];rfl
def mn:Sp:=⟨[(.pt SchemaT)],[false],true,fun x=>(bw x.1).2,fun x=>[0<=x.1.1,x.1.1<=400,x.1.2.1.length<=1000000,x.1.2.2.1.length=x.1.2.1.length],[(false,(.fz (.sl PathT))),(false,(.fz (.er 119)))],fun x=>((bw x.1).1,false,()),[(false,(.fz (.sl PathT))),(false,(.fz (.er 119)))],fun x=>([],true,())⟩
def g7:Ct:=o6 mn true
def jl:Ct:=o6 mn false
def wn:Ct:=spC mn
def uu(s:ab)(K:jc g7.rt->Prop):Prop:=(ic (S:=bpg) (fun s1=>((T.ok (T.sl PathT) s1.2.1)->(be (S:=bpc) (fun s2=>(fun next=>((inK IntKind.i64 s2.1.2.1)->((T.ok (T.sl PathT) s2.2.1)->(cnd (decide (s2.1.2.1<s.1)) ((dz s2.2.1.length (List.length ((s2.1.2.1,([]:List Int))::([]:List bo9))) 32)/\((inK IntKind.i64 (s2.1.2.1+(1:Int)))/\(next (((),((s2.1.2.1+(1:Int)),())),((s2.2.1++((s2.1.2.1,([]:List Int))::([]:List bo9))),()))))) (be (S:=bpc) (fun s3=>(fun next1=>((inK IntKind.i64 s3.1.2.1)->((T.ok (T.sl PathT) s3.2.1)->(cnd (decide (s3.1.2.1<((s3.2.1.length:Nat):Int))) (ic (S:=bpg) (fun s4=>((T.ok (T.sl PathT) s4.2.1)->((inK IntKind.i64 (s3.1.2.1+(1:Int)))/\(next1 (((),((s3.1.2.1+(1:Int)),())),(s4.2.1,())))))) (fun k=>(((0:Int)<=s3.1.2.1)/\((s3.1.2.1<((s3.2.1.length:Nat):Int))/\(cnd ((((List.length (s3.2.1.getD s3.1.2.1.toNat ((0:Int),([]:List Int))).2):Nat):Int)==(6:Int)) (k (((),()),(s3.2.1,()))) (((0:Int)<=s3.1.2.1)/\((s3.1.2.1<((s3.2.1.length:Nat):Int))/\((s.2.1.length<=s.2.2.1.length)/\((inK IntKind.i64 (s.1-(1:Int)))/\(be (S:=bpc) (fun s4=>(fun next2=>((inK IntKind.i64 s4.1.2.1)->((T.ok (T.sl PathT) s4.2.1)->(cnd (decide (s4.1.2.1<((s.2.1.length:Nat):Int))) (ic (S:=bpg) (fun s5=>((T.ok (T.sl PathT) s5.2.1)->((inK IntKind.i64 (s4.1.2.1+(1:Int)))/\(next2 (((),((s4.1.2.1+(1:Int)),())),(s5.2.1,())))))) (fun k1=>(((0:Int)<=s4.1.2.1)/\((s4.1.2.1<((s.2.1.length:Nat):Int))/\(cnd ((s.2.1.getD s4.1.2.1.toNat (0:Int)) != (aw s (s3.2.1.getD s3.1.2.1.toNat ((0:Int),([]:List Int)))).1) (k1 (((),()),(s4.2.1,()))) (cnd (((s4.2.1.length:Nat):Int)==(400:Int)) (K (([]:List bo9),(Bool.true,()))) (((0:Int)<=s3.1.2.1)/\((s3.1.2.1<((s4.2.1.length:Nat):Int))/\(((0:Int)<=s3.1.2.1)/\((s3.1.2.1<((s4.2.1.length:Nat):Int))/\(((List.length (s4.2.1.getD s3.1.2.1.toNat ((0:Int),([]:List Int))).2)<=1099511627776)/\((dz (List.length (s4.2.1.getD s3.1.2.1.toNat ((0:Int),([]:List Int))).2) (List.length (s4.1.2.1::([]:List Int))) 8)/\((dz s4.2.1.length (List.length (((s4.2.1.getD s3.1.2.1.toNat ((0:Int),([]:List Int))).1,((s4.2.1.getD s3.1.2.1.toNat ((0:Int),([]:List Int))).2++(s4.1.2.1::([]:List Int))))::([]:List bo9))) 32)/\(k1 (((),()),((s4.2.1++(((s4.2.1.getD s3.1.2.1.toNat ((0:Int),([]:List Int))).1,((s4.2.1.getD s3.1.2.1.toNat ((0:Int),([]:List Int))).2++(s4.1.2.1::([]:List Int))))::([]:List bo9))),())))))))))))))))) (k (((),()),(s4.2.1,())))))))) (((),((0:Int),())),(s3.2.1,())))))))))))) (K (s3.2.1,(Bool.false,())))))))) (((),((0:Int),())),(s2.2.1,())))))))) (((),((0:Int),())),(s1.2.1,()))))) (fun k=>(k (((),()),(([]:List bo9),())))))
theorem aip(s:ab)(hok:ae (okL g7.args (s,())))(hpre:ae (g7.pre (s,()))):uu s (fun r=>r=g7.res (s,())):=by
 simp only[g7,o6,mn,okL,T.oks,T.ok,ap,ae,a0e,a0c,a0i]at hok hpre
 try dsimp only[T.den]at hok hpre
 unfold uu;obtain⟨hs,n0,n4,hf,ht⟩:=hpre;unfold bw at hs;refine g6 (fun (q:bpg)=>q.2.1=[]) ?_ (fun k hk=>hk _ rfl);rintro⟨_,l0,_⟩ e1;intros
 try dsimp only at e1⊢
 subst e1;refine br (fun (q:bpc)=>0<=q.1.2.1/\q.1.2.1<=s.1/\q.2.1=d8 q.1.2.1) (fun (q:bpc)=>(s.1-q.1.2.1).toNat) ?_ ⟨by simp,n0,rfl⟩;rintro⟨⟨_,x,_⟩,l,_⟩ next ⟨x0,x1,q⟩ hnx
 intros
 try dsimp only at x0 x1 q hnx⊢
 subst q;have zl:(d8 x).length=x.toNat:=bj _;refine aq (fun hx=>?_) (fun hx=>?_)
 ·refine⟨da (by rw[zl];simp only[a0l,a0p];omega),by rw[al];(try dsimp only);omega,hnx _ ⟨by dsimp only;omega,by dsimp only;omega,?_⟩ (by dsimp only;omega)⟩
  try dsimp only
  unfold d8;rw[uw x0]
 have ex:x=s.1:=by omega
 subst ex;clear hnx;have hz0:∀p∈d8 s.1,(aw s p).2=true:=by intro p hp;unfold d8 at hp;obtain⟨e,h0,h1,rfl⟩:=ph.1 hp;exact adi h0 (by omega)
 refine br (fun (q:bpc)=>0<=q.1.2.1/\q.1.2.1<=400/\gb s 402 0 (d8 s.1)=gb s (402-q.1.2.1).toNat q.1.2.1.toNat q.2.1/\(∀p∈q.2.1,(aw s p).2=true)/\q.2.1.length<=400) (fun (q:bpc)=>(400-q.1.2.1).toNat) ?_ ⟨by simp,by simp,rfl,hz0,by dsimp only;omega⟩;rintro⟨⟨_,k,_⟩,L,_⟩ next ⟨k0,k41,hg,hp,hL⟩ hnx
 intros
 try dsimp only at k0 k41 hg hp hL hnx⊢
 refine aq (fun hc=>?_) (fun hc=>?_)
 ·have hpk:=hp _ (im L (0,[]) k0 hc);have hgk:gb s 402 0 (d8 s.1)=(if (L.getD k.toNat (0,[])).2.length=6 then gb s (402-(k+1)).toNat (k+1).toNat L else if 400<(L++io s (L.getD k.toNat (0,[])) s.2.1.length).length then ([],false)else gb s (402-(k+1)).toNat (k+1).toNat (L++io s (L.getD k.toNat (0,[])) s.2.1.length)):=by rw[hg,show (402-k).toNat=(402-(k+1)).toNat+1 from by omega,show (k+1).toNat=k.toNat+1 from by omega];rw[gb,d0 (by omega)]
  refine g6 (fun (q:bpg)=>gb s 402 0 (d8 s.1)=gb s (402-(k+1)).toNat (k+1).toNat q.2.1/\(∀p∈q.2.1,(aw s p).2=true)/\q.2.1.length<=400) ?_ ?_
  ·rintro⟨_,M,_⟩ ⟨m1,m2,m3⟩;intros
   try dsimp only at m1 m2 m3⊢
   exact⟨by rw[al];(try dsimp only);omega,hnx _ ⟨by dsimp only;omega,by dsimp only;omega,m1,m2,m3⟩ (by dsimp only;omega)⟩
  intro kk hkk;generalize hP:L.getD k.toNat (0,[])=P at *;refine⟨k0,hc,bc (fun h6=>?_) (fun h6=>?_)⟩
  ·have h6:P.2.length=6:=by have:=a1s h6;omega
   rw[d0 h6]at hgk;exact hkk _ ⟨hgk,hp,hL⟩
  have h6:¬P.2.length=6:=by have:=a17.1 h6;omega
  rw[ds h6]at hgk;refine⟨k0,hc,by omega,by rw[al];(try dsimp only);omega,?_⟩;refine br (fun (q:bpc)=>0<=q.1.2.1/\q.1.2.1<=s.2.1.length/\q.2.1=L++io s P q.1.2.1.toNat/\q.2.1.length<=400) (fun (q:bpc)=>(s.2.1.length-q.1.2.1).toNat) ?_ ⟨by simp,by simp,by simp[io,dv],hL⟩;rintro⟨⟨_,e,_⟩,M,_⟩ next1 ⟨e0,e1,q,hM⟩ hn1;intros
  try dsimp only at e0 e1 q hM hn1⊢
  subst q;have hMk:k<(L++io s P e.toNat).length:=by rw[a0q];omega
  have hG:(L++io s P e.toNat).getD k.toNat (0,[])=P:=by rw[atc (by omega),hP]
  have hE:=@awd s P e e0;rw[hG];have hp6:=x7 hpk;refine aq (fun he=>?_) (fun he=>?_)
  ·refine g6 (fun (q:bpg)=>q.2.1=L++io s P (e+1).toNat/\q.2.1.length<=400) ?_ ?_
   ·rintro⟨_,M2,_⟩ ⟨q2,q3⟩;intros
    try dsimp only at q2 q3⊢
    subst q2;exact⟨by rw[al];(try dsimp only);omega,hn1 _ ⟨by dsimp only;omega,by dsimp only;omega,rfl,q3⟩ (by dsimp only;omega)⟩
   ·intro k1 hk1;rw[hE]at hk1;refine⟨e0,he,bc (fun hb=>?_) (fun hb=>?_)⟩
    ·have hb:¬(s.2.1.getD e.toNat 0==gu s P)=true:=by rw[(ii hpk).1];intro h;rw[a1s h]at hb;simp at hb
     rw[ds hb,a2l]at hk1;exact hk1 _ ⟨rfl,hM⟩
    ·have hb:(s.2.1.getD e.toNat 0==gu s P)=true:=by rw[(ii hpk).1];exact a0s.2 (a1j.1 hb)
     rw[d0 hb]at hk1 hE;refine bc (fun h4=>?_) (fun h4=>?_)
     ·have h4:=a1s h4;have hbig:400<(L++io s P s.2.1.length).length:=by have:=@axf s P (e+1).toNat s.2.1.length (by omega);rw[hE]at this;simp only[a0q,a0l,a0p]at this h4⊢;omega
      rw[d0 hbig]at hgk;rw[hgk]at hs;cases hs
     ·have h4:=a17.1 h4;refine⟨k0,hMk,k0,hMk,by omega,da (by simp only[a0l,a0p];omega),da (by simp only[a0l,a0p];omega),hk1 _ ⟨a06 _ _ _,?_⟩⟩;rw[a0q];simp only[a0l,a0p];omega
  ·have ee:e=s.2.1.length:=by omega
   subst ee;rw[a0m]at hM⊢;rw[ds (by omega)]at hgk;refine hkk _ ⟨hgk,fun p hp'=>?_,hM⟩;rcases a1m.1 hp' with h|h
   ·exact hp p h
   ·exact asr hpk h6 (a0f _) h
 ·have hgl:gb s 402 0 (d8 s.1)=(L,true):=by rw[hg,show (402-k).toNat=(401-k).toNat+1 from by omega,gb,ds (by omega)]
  simp only[g7,o6,mn,bw];rw[hgl]
theorem ah0:bz Tryz.prog 110 g7:=ci (Φ:=lkp [(74,d4),(77,jv)]) (ai lq (ai sv ao)) bm (by kernel_rfl) (fn:=Tryz.f110) (c:=bg Tryz.f110) (by kernel_rfl) (by kernel_rfl) (by kernel_rfl) g7 rfl (.s .n (.j [(4,(.ref 800004 []))] [(800004,(.sl (.fz (.p (.int .i64) (.sl (.int .i64))))))] [0] (.s .n (.s (.s .n (.l [(4,(.ref 800004 [])),(16,(.d (.int .i64)))] [(800004,(.sl (.fz (.p (.int .i64) (.sl (.int .i64))))))] [0,15] .n)) (.s (.s .n (.l [(4,(.ref 800004 [])),(6,(.d (.int .i64)))] [(800004,(.sl (.fz (.p (.int .i64) (.sl (.int .i64))))))] [0] (.s .n (.s (.j [(4,(.ref 800004 []))] [(800004,(.sl (.fz (.p (.int .i64) (.sl (.int .i64))))))] [0,6] (.s .n (.s .n (.s .n (.l [(4,(.ref 800004 [])),(52,(.d (.int .i64)))] [(800004,(.sl (.fz (.p (.int .i64) (.sl (.int .i64))))))] [0,6,7,50,51] (.s .n (.s .n (.s (.j [(4,(.ref 800004 []))] [(800004,(.sl (.fz (.p (.int .i64) (.sl (.int .i64))))))] [0,6,7,50,51,52] .n) .n)))))))) .n)))) .n))))) (cu [(18,8000055014)]) (by kernel_rfl) (by kernel_rfl) (by kernel_rfl) (by decide) (fun x K=>uu x.1 K) (fun _ _=>by kernel_rfl) (fun x h1 h2=>aip x.1 h1 h2)
def uv(s:ab)(K:jc jl.rt->Prop):Prop:=(ic (S:=bpg) (fun s1=>((T.ok (T.sl PathT) s1.2.1)->(be (S:=bpc) (fun s2=>(fun next=>((inK IntKind.i64 s2.1.2.1)->((T.ok (T.sl PathT) s2.2.1)->(cnd (decide (s2.1.2.1<s.1)) ((dz s2.2.1.length (List.length ((s2.1.2.1,([]:List Int))::([]:List bo9))) 32)/\((inK IntKind.i64 (s2.1.2.1+(1:Int)))/\(next (((),((s2.1.2.1+(1:Int)),())),((s2.2.1++((s2.1.2.1,([]:List Int))::([]:List bo9))),()))))) (be (S:=bpc) (fun s3=>(fun next1=>((inK IntKind.i64 s3.1.2.1)->((T.ok (T.sl PathT) s3.2.1)->(cnd (decide (s3.1.2.1<((s3.2.1.length:Nat):Int))) (ic (S:=bpg) (fun s4=>((T.ok (T.sl PathT) s4.2.1)->((inK IntKind.i64 (s3.1.2.1+(1:Int)))/\(next1 (((),((s3.1.2.1+(1:Int)),())),(s4.2.1,())))))) (fun k=>(((0:Int)<=s3.1.2.1)/\((s3.1.2.1<((s3.2.1.length:Nat):Int))/\(cnd ((((List.length (s3.2.1.getD s3.1.2.1.toNat ((0:Int),([]:List Int))).2):Nat):Int)==(6:Int)) (k (((),()),(s3.2.1,()))) (((0:Int)<=s3.1.2.1)/\((s3.1.2.1<((s3.2.1.length:Nat):Int))/\((s.2.1.length<=s.2.2.1.length)/\((inK IntKind.i64 (s.1-(1:Int)))/\(be (S:=bpc) (fun s4=>(fun next2=>((inK IntKind.i64 s4.1.2.1)->((T.ok (T.sl PathT) s4.2.1)->(cnd (decide (s4.1.2.1<((s.2.1.length:Nat):Int))) (ic (S:=bpg) (fun s5=>((T.ok (T.sl PathT) s5.2.1)->((inK IntKind.i64 (s4.1.2.1+(1:Int)))/\(next2 (((),((s4.1.2.1+(1:Int)),())),(s5.2.1,())))))) (fun k1=>(((0:Int)<=s4.1.2.1)/\((s4.1.2.1<((s.2.1.length:Nat):Int))/\(cnd ((s.2.1.getD s4.1.2.1.toNat (0:Int)) != (aw s (s3.2.1.getD s3.1.2.1.toNat ((0:Int),([]:List Int)))).1) (k1 (((),()),(s4.2.1,()))) (cnd (((s4.2.1.length:Nat):Int)==(400:Int)) (K (([]:List bo9),(Bool.true,()))) (((0:Int)<=s3.1.2.1)/\((s3.1.2.1<((s4.2.1.length:Nat):Int))/\(((0:Int)<=s3.1.2.1)/\((s3.1.2.1<((s4.2.1.length:Nat):Int))/\(((List.length (s4.2.1.getD s3.1.2.1.toNat ((0:Int),([]:List Int))).2)<=1099511627776)/\((dz (List.length (s4.2.1.getD s3.1.2.1.toNat ((0:Int),([]:List Int))).2) (List.length (s4.1.2.1::([]:List Int))) 8)/\((dz s4.2.1.length (List.length (((s4.2.1.getD s3.1.2.1.toNat ((0:Int),([]:List Int))).1,((s4.2.1.getD s3.1.2.1.toNat ((0:Int),([]:List Int))).2++(s4.1.2.1::([]:List Int))))::([]:List bo9))) 32)/\(k1 (((),()),((s4.2.1++(((s4.2.1.getD s3.1.2.1.toNat ((0:Int),([]:List Int))).1,((s4.2.1.getD s3.1.2.1.toNat ((0:Int),([]:List Int))).2++(s4.1.2.1::([]:List Int))))::([]:List bo9))),())))))))))))))))) (k (((),()),(s4.2.1,())))))))) (((),((0:Int),())),(s3.2.1,())))))))))))) (K (s3.2.1,(Bool.false,())))))))) (((),((0:Int),())),(s2.2.1,())))))))) (((),((0:Int),())),(s1.2.1,()))))) (fun k=>(k (((),()),(([]:List bo9),())))))
theorem aii(s:ab)(hok:ae (okL jl.args (s,())))(hpre:ae (jl.pre (s,()))):uv s (fun r=>r=jl.res (s,())):=by
 simp only[jl,o6,mn,okL,T.oks,T.ok,ap,ae,a0e,a0c,a0i]at hok hpre
 try dsimp only[T.den]at hok hpre
 unfold uv;obtain⟨hs,n0,n4,hf,ht⟩:=hpre;unfold bw at hs;refine g6 (fun (q:bpg)=>q.2.1=[]) ?_ (fun k hk=>hk _ rfl);rintro⟨_,l0,_⟩ e1;intros
 try dsimp only at e1⊢
 subst e1;refine br (fun (q:bpc)=>0<=q.1.2.1/\q.1.2.1<=s.1/\q.2.1=d8 q.1.2.1) (fun (q:bpc)=>(s.1-q.1.2.1).toNat) ?_ ⟨by simp,n0,rfl⟩;rintro⟨⟨_,x,_⟩,l,_⟩ next ⟨x0,x1,q⟩ hnx
 intros
 try dsimp only at x0 x1 q hnx⊢
 subst q;have zl:(d8 x).length=x.toNat:=bj _;refine aq (fun hx=>?_) (fun hx=>?_)
 ·refine⟨da (by rw[zl];simp only[a0l,a0p];omega),by rw[al];(try dsimp only);omega,hnx _ ⟨by dsimp only;omega,by dsimp only;omega,?_⟩ (by dsimp only;omega)⟩
  try dsimp only
  unfold d8;rw[uw x0]
 have ex:x=s.1:=by omega
 subst ex;clear hnx;have hz0:∀p∈d8 s.1,(aw s p).2=true:=by intro p hp;unfold d8 at hp;obtain⟨e,h0,h1,rfl⟩:=ph.1 hp;exact adi h0 (by omega)
 refine br (fun (q:bpc)=>0<=q.1.2.1/\q.1.2.1<=400/\gb s 402 0 (d8 s.1)=gb s (402-q.1.2.1).toNat q.1.2.1.toNat q.2.1/\(∀p∈q.2.1,(aw s p).2=true)/\q.2.1.length<=400) (fun (q:bpc)=>(400-q.1.2.1).toNat) ?_ ⟨by simp,by simp,rfl,hz0,by dsimp only;omega⟩;rintro⟨⟨_,k,_⟩,L,_⟩ next ⟨k0,k41,hg,hp,hL⟩ hnx
 intros
 try dsimp only at k0 k41 hg hp hL hnx⊢
 refine aq (fun hc=>?_) (fun hc=>?_)
 ·have hpk:=hp _ (im L (0,[]) k0 hc);have hgk:gb s 402 0 (d8 s.1)=(if (L.getD k.toNat (0,[])).2.length=6 then gb s (402-(k+1)).toNat (k+1).toNat L else if 400<(L++io s (L.getD k.toNat (0,[])) s.2.1.length).length then ([],false)else gb s (402-(k+1)).toNat (k+1).toNat (L++io s (L.getD k.toNat (0,[])) s.2.1.length)):=by rw[hg,show (402-k).toNat=(402-(k+1)).toNat+1 from by omega,show (k+1).toNat=k.toNat+1 from by omega];rw[gb,d0 (by omega)]
  refine g6 (fun (q:bpg)=>gb s 402 0 (d8 s.1)=gb s (402-(k+1)).toNat (k+1).toNat q.2.1/\(∀p∈q.2.1,(aw s p).2=true)/\q.2.1.length<=400) ?_ ?_
  ·rintro⟨_,M,_⟩ ⟨m1,m2,m3⟩;intros
   try dsimp only at m1 m2 m3⊢
   exact⟨by rw[al];(try dsimp only);omega,hnx _ ⟨by dsimp only;omega,by dsimp only;omega,m1,m2,m3⟩ (by dsimp only;omega)⟩
  intro kk hkk;generalize hP:L.getD k.toNat (0,[])=P at *;refine⟨k0,hc,bc (fun h6=>?_) (fun h6=>?_)⟩
  ·have h6:P.2.length=6:=by have:=a1s h6;omega
   rw[d0 h6]at hgk;exact hkk _ ⟨hgk,hp,hL⟩
  have h6:¬P.2.length=6:=by have:=a17.1 h6;omega
  rw[ds h6]at hgk;refine⟨k0,hc,by omega,by rw[al];(try dsimp only);omega,?_⟩;refine br (fun (q:bpc)=>0<=q.1.2.1/\q.1.2.1<=s.2.1.length/\q.2.1=L++io s P q.1.2.1.toNat/\q.2.1.length<=400) (fun (q:bpc)=>(s.2.1.length-q.1.2.1).toNat) ?_ ⟨by simp,by simp,by simp[io,dv],hL⟩;rintro⟨⟨_,e,_⟩,M,_⟩ next1 ⟨e0,e1,q,hM⟩ hn1;intros
  try dsimp only at e0 e1 q hM hn1⊢
  subst q;have hMk:k<(L++io s P e.toNat).length:=by rw[a0q];omega
  have hG:(L++io s P e.toNat).getD k.toNat (0,[])=P:=by rw[atc (by omega),hP]
  have hE:=@awd s P e e0;rw[hG];have hp6:=x7 hpk;refine aq (fun he=>?_) (fun he=>?_)
  ·refine g6 (fun (q:bpg)=>q.2.1=L++io s P (e+1).toNat/\q.2.1.length<=400) ?_ ?_
   ·rintro⟨_,M2,_⟩ ⟨q2,q3⟩;intros
    try dsimp only at q2 q3⊢
    subst q2;exact⟨by rw[al];(try dsimp only);omega,hn1 _ ⟨by dsimp only;omega,by dsimp only;omega,rfl,q3⟩ (by dsimp only;omega)⟩
   ·intro k1 hk1;rw[hE]at hk1;refine⟨e0,he,bc (fun hb=>?_) (fun hb=>?_)⟩
    ·have hb:¬(s.2.1.getD e.toNat 0==gu s P)=true:=by rw[(ii hpk).1];intro h;rw[a1s h]at hb;simp at hb
     rw[ds hb,a2l]at hk1;exact hk1 _ ⟨rfl,hM⟩
    ·have hb:(s.2.1.getD e.toNat 0==gu s P)=true:=by rw[(ii hpk).1];exact a0s.2 (a1j.1 hb)
     rw[d0 hb]at hk1 hE;refine bc (fun h4=>?_) (fun h4=>?_)
     ·have h4:=a1s h4;have hbig:400<(L++io s P s.2.1.length).length:=by have:=@axf s P (e+1).toNat s.2.1.length (by omega);rw[hE]at this;simp only[a0q,a0l,a0p]at this h4⊢;omega
      rw[d0 hbig]at hgk;rfl
     ·have h4:=a17.1 h4;refine⟨k0,hMk,k0,hMk,by omega,da (by simp only[a0l,a0p];omega),da (by simp only[a0l,a0p];omega),hk1 _ ⟨a06 _ _ _,?_⟩⟩;rw[a0q];simp only[a0l,a0p];omega
  ·have ee:e=s.2.1.length:=by omega
   subst ee;rw[a0m]at hM⊢;rw[ds (by omega)]at hgk;refine hkk _ ⟨hgk,fun p hp'=>?_,hM⟩;rcases a1m.1 hp' with h|h
   ·exact hp p h
   ·exact asr hpk h6 (a0f _) h
 ·have hgl:gb s 402 0 (d8 s.1)=(L,true):=by rw[hg,show (402-k).toNat=(401-k).toNat+1 from by omega,gb,ds (by omega)]
  rw[hgl]at hs;cases hs
theorem ahm:bz Tryz.prog 110 jl:=ci (Φ:=lkp [(74,d4),(77,jv)]) (ai lq (ai sv ao)) bm (by kernel_rfl) (fn:=Tryz.f110) (c:=bg Tryz.f110) (by kernel_rfl) (by kernel_rfl) (by kernel_rfl) jl rfl (.s .n (.j [(4,(.ref 800004 []))] [(800004,(.sl (.fz (.p (.int .i64) (.sl (.int .i64))))))] [0] (.s .n (.s (.s .n (.l [(4,(.ref 800004 [])),(16,(.d (.int .i64)))] [(800004,(.sl (.fz (.p (.int .i64) (.sl (.int .i64))))))] [0,15] .n)) (.s (.s .n (.l [(4,(.ref 800004 [])),(6,(.d (.int .i64)))] [(800004,(.sl (.fz (.p (.int .i64) (.sl (.int .i64))))))] [0] (.s .n (.s (.j [(4,(.ref 800004 []))] [(800004,(.sl (.fz (.p (.int .i64) (.sl (.int .i64))))))] [0,6] (.s .n (.s .n (.s .n (.l [(4,(.ref 800004 [])),(52,(.d (.int .i64)))] [(800004,(.sl (.fz (.p (.int .i64) (.sl (.int .i64))))))] [0,6,7,50,51] (.s .n (.s .n (.s (.j [(4,(.ref 800004 []))] [(800004,(.sl (.fz (.p (.int .i64) (.sl (.int .i64))))))] [0,6,7,50,51,52] .n) .n)))))))) .n)))) .n))))) (cu [(18,8000055014)]) (by kernel_rfl) (by kernel_rfl) (by kernel_rfl) (by decide) (fun x K=>uv x.1 K) (fun _ _=>by kernel_rfl) (fun x h1 h2=>aii x.1 h1 h2)
theorem aa9:bz Tryz.prog 110 wn:=ar7 ah0 ahm
def gr{α:Type}[DecidableEq α]:List α->α->Int
 |[],_=>-1
 |a::r,x=>if a=x then 0 else (if gr r x<0 then -1 else gr r x+1)
theorem qf{α:Type}[DecidableEq α](z:α):∀{l:List α} {x:α},(x∈l->0<=gr l x/\gr l x<l.length/\l.getD (gr l x).toNat z=x/\∀i:Int,0<=i->i<gr l x->l.getD i.toNat z≠x)/\(x∉l->gr l x=-1)
 |[],x=>by simp[gr]
 |a::r,x=>by
  have ih:=@qf α _ z r x;rw[gr];by_cases h:a=x
  ·subst h;simp only[a03,a0u,true_or,not_true_eq_false,false_implies,a0c,true_implies];exact⟨a0r _,by simp,rfl,fun i i0 i1=>by omega⟩
  ·rw[ds h];simp only[a0u,not_or];refine⟨fun hm=>?_,fun hm=>?_⟩
   ·have hm:x∈r:=hm.resolve_left fun e=>h e.symm;obtain⟨h0,h1,h2,h3⟩:=ih.1 hm;rw[ds (by omega)];have e:(gr r x+1).toNat=(gr r x).toNat+1:=by omega
    refine⟨by omega,by simp only[a0l];omega,by rw[e,a4s];exact h2,fun i i0 i1=>?_⟩;by_cases hi:i=0
    ·rw[hi];exact h
    ·have e:i.toNat=(i-1).toNat+1:=by omega
     rw[e,a4s];exact h3 (i-1) (by omega) (by omega)
   ·rw[ih.2 hm.2,d0 (by omega)]
theorem arf{α:Type}[DecidableEq α]{z:α}{l:List α}{x:α}{i:Int}(i0:0<=i)(i1:i<l.length)(h:l.getD i.toNat z=x)(hn:∀k:Int,0<=k->k<i->l.getD k.toNat z≠x):gr l x=i:=by
 have hm:x∈l:=h▸im l z i0 i1;obtain⟨h0,h1,h2,h3⟩:=(qf z).1 hm;rcases Int.lt_trichotomy (gr l x) i with hl|hl|hl
 ·exact absurd h2 (hn _ h0 hl)
 ·exact hl
 ·exact absurd h (h3 i i0 hl)
theorem bl7{α:Type}[DecidableEq α]{z:α}{l:List α}{x:α}(hn:∀k:Int,0<=k->k<l.length->l.getD k.toNat z≠x):gr l x=-1:=by refine (qf z).2 fun hm=>?_;obtain⟨h0,h1,h2,_⟩:=(qf z).1 hm;exact hn _ h0 h1 h2
def lh(s:List Int)(k:Int):List Int:=if gr s k<0 then s++[k]else s
def gw(l:List Int):List Int:=l.foldl lh []
def bp(l:List Int):List Int:=l.map (gr (gw l))
theorem bbv{s:List Int}{k:Int}(r:List Int)(h:0<=gr s k):gr (s++r) k=gr s k:=by
 have hm:k∈s:=a3k fun hn=>by have:=(qf (0:Int)).2 hn;omega
 obtain⟨h0,h1,h2,h3⟩:=(qf (0:Int)).1 hm;have hg:∀i:Int,0<=i->i<s.length->(s++r).getD i.toNat 0=s.getD i.toNat 0:=fun i i0 i1=>by simp only[a0o];rw[a1e (by omega)]
 refine arf (z:=(0:Int)) h0 (by rw[a0q];omega) (by rw[hg _ h0 h1];exact h2) fun i i0 i1=>?_;rw[hg i i0 (by omega)];exact h3 i i0 i1
theorem bbe:∀(l:List Int) (s:List Int),∃r,l.foldl lh s=s++r
 |[],s=>⟨[],by simp⟩
 |k::l,s=>by
  obtain⟨r,hr⟩:=bbe l (lh s k);rw[a12,hr];unfold lh;split
  ·exact⟨k::r,by simp⟩
  ·exact⟨r,rfl⟩
theorem anq:∀(l:List Int) (s:List Int),(l.foldl lh s).length<=s.length+l.length
 |[],s=>by simp
 |k::l,s=>by
  have:=anq l (lh s k);rw[a12,a0l];have h2:(lh s k).length<=s.length+1:=by unfold lh;split <;> simp
  omega
theorem awb{l:List Int}{i:Int}(i0:0<=i)(i1:i<l.length):gw (l.take (i+1).toNat)=lh (gw (l.take i.toNat)) (l.getD i.toNat 0):=by rw[mt l 0 i0 i1];unfold gw;rw[a3c];rfl
theorem aix{l:List Int}{n:Nat}{k:Int}(h:0<=gr (gw (l.take n)) k):gr (gw l) k=gr (gw (l.take n)) k:=by
 obtain⟨r,hr⟩:=bbe (l.drop n) (gw (l.take n))
 have:gw l=gw (l.take n)++r:=by
  rw[←hr]
  conv=>lhs;rw[←a10 n l]
  unfold gw;rw[a3c]
 rw[this,bbv r h]
theorem auf{s:List Int}{k:Int}(h:gr s k<0):gr (s++[k]) k=s.length:=by
 have hm:k∉s:=fun hm=>by have:=((qf (0:Int)).1 hm).1;omega
 refine arf (z:=(0:Int)) (by omega) (by simp only[a0q,a0l,a0p];omega) (by simp[a0o]) fun i i0 i1=>?_;simp only[a0o];rw[a1e (by omega)];intro e;exact hm (e▸(by rw[←a0o];exact im s 0 i0 i1))
structure NumM (m:List (Int×Int)) (s:List Int):Prop where
 n:m.length=s.length
 f:∀k:Int,qw (.int .i64) (.int .i64) m k=if gr s k<0 then none else some (gr s k)
theorem au7{x y z:Int}:∀{l:List (Int×Int)},qw (.int .i64) (.int .i64) (ig (.int .i64) (.int .i64) l x z) y=if y=x then some z else qw (.int .i64) (.int .i64) l y
 |[]=>by
  show qw (.int .i64) (.int .i64) [(x,z)] y=_;rw[ir];by_cases h:y=x
  ·rw[d0 (ff.2 h),d0 h]
  ·rw[ds (fun e=>h (ff.1 e)),ds h]
 |e::r=>by
  have ih:=@au7 x y z r;unfold ig;by_cases h:eqR (.int .i64) x e.1=true
  ·rw[d0 h,ir,ir];have e1:=ff.1 h;rw[←e1];by_cases h2:y=x
   ·rw[d0 (ff.2 h2),d0 h2]
   ·rw[ds (fun e=>h2 (ff.1 e)),ds h2,ds (fun e=>h2 (ff.1 e))]
  ·rw[ds h,ir,ir,ih];by_cases h2:eqR (.int .i64) y e.1=true
   ·rw[d0 h2,d0 h2,ds];intro h3;exact h (ff.2 (h3▸ff.1 h2))
   ·rw[ds h2,ds h2]
theorem NumM.add{m:List (Int×Int)}{s:List Int}(h:NumM m s){k:Int}(hk:gr s k<0):NumM (ig (.int .i64) (.int .i64) m k m.length) (s++[k]):=by
 have hno:k∉m.map (·.1):=fun hm=>by
  have:∀{l:List (Int×Int)},k∈l.map (·.1)->qw (.int .i64) (.int .i64) l k≠none:=by
   intro l
   induction l with
   |nil=>intro h;simp at h
   |cons e r ih=>
    intro hm;rw[ir];split
    ·simp
    ·rename_i h1;rcases a0u.1 hm with h2|h2
     ·exact absurd (ff.2 h2) h1
     ·exact ih h2
  have:=this hm;rw[h.f,d0 hk]at this;exact this rfl
 refine⟨?_,fun y=>?_⟩
 ·have:=@axo (.int .i64) (.int .i64) k m.length m hno;rw[this,a0q,h.n];rfl
 ·rw[au7];by_cases e:y=k
  ·subst e;rw[d0 rfl,auf hk,ds (by omega),h.n]
  ·rw[ds e,h.f];by_cases hy:gr s y<0
   ·have hn:y∉s:=fun hm=>by have:=((qf (0:Int)).1 hm).1;omega
    have:gr (s++[k]) y=-1:=(qf (0:Int)).2 (by simp[hn,e]);rw[d0 hy,this,d0 (by omega)]
   ·rw[bbv _ (by omega)]
def oz:Ct:=⟨[(.sl (.int .i64))],[false],fun x=>[x.1.length<=1099511627776],[(false,(.sl (.fz (.int .i64))))],fun x=>(bp x.1,()),false,none⟩
def asv:Ann:=(.s .n (.s .n (.s .n (.s (.s .n (.l [(3,(.ref 9 [])),(4,(.ref 12 [])),(15,(.d (.int .i64)))] [(9,(.mp (.int .i64) (.int .i64))),(12,(.sl (.fz (.int .i64))))] [13,14] (.s .n (.s .n (.s (.s .n (.s .n (.s (.s .n (.j [(3,(.ref 9 [])),(4,(.ref 12 [])),(7,(.d (.int .i64)))] [(9,(.mp (.int .i64) (.int .i64))),(12,(.sl (.fz (.int .i64))))] [5,13,14,15] .n)) .n))) .n))))) .n))))
def adw(labels:List Int)(K:(List Int)×Unit->Prop):Prop:=((0<=((labels.length:Nat):Int))/\((((labels.length:Nat):Int)<=((labels.length:Nat):Int))/\((((labels.length:Nat):Int)<=((140737488355328:Nat):Int))/\(((((labels.length:Nat):Int)*((8:Nat):Int))<=((140737488355328:Nat):Int))/\(be (S:=bpo) (fun s=>(fun next=>((inK .i64 s.1.2.2.1)->((T.ok (T.mp (.int .i64) (.int .i64)) s.2.1)->((T.ok (.sl (.int .i64)) s.2.2.1)->(cnd (decide (s.1.2.2.1<((labels.length:Nat):Int))) ((0<=s.1.2.2.1)/\((s.1.2.2.1<((labels.length:Nat):Int))/\(ic (S:=bpo) (fun s1=>((inK .i64 s1.1.2.2.1)->((T.ok (T.mp (.int .i64) (.int .i64)) s1.2.1)->((T.ok (.sl (.int .i64)) s1.2.2.1)->((0<=s.1.2.2.1)/\((s.1.2.2.1<((s1.2.2.1.length:Nat):Int))/\((inK .i64 (s.1.2.2.1+1))/\(next (((),((),((s.1.2.2.1+1),()))),(s1.2.1,((List.set s1.2.2.1 s.1.2.2.1.toNat s1.1.2.2.1),()))))))))))) (fun k=>(cnd (!(ahh (.int .i64) (.int .i64) s.2.1 (labels.getD s.1.2.2.1.toNat 0))) ((dz s.2.1.length 1 1)/\(k (((),((),(((s.2.1.length:Nat):Int),()))),((ig (.int .i64) (.int .i64) s.2.1 (labels.getD s.1.2.2.1.toNat 0) ((s.2.1.length:Nat):Int)),(s.2.2.1,()))))) (k (((),((),((pm (.int .i64) (.int .i64) s.2.1 (labels.getD s.1.2.2.1.toNat 0)),()))),(s.2.1,(s.2.2.1,()))))))))) (K (s.2.2.1,())))))))) (((),((),(0,()))),(([]:List (Int×Int)),((List.replicate (Int.toNat ((labels.length:Nat):Int)) (0:Int)),()))))))))
theorem avz(labels:List Int)(hok:ae (okL oz.args (labels,())))(hpre:ae (oz.pre (labels,()))):adw labels (fun r=>r=oz.res (labels,())):=by
 simp only[oz,okL,T.oks,T.ok,ap,ae,a0e,a0c,a0i]at hok hpre
 try dsimp only[T.den]at hok hpre
 unfold adw;have hl:labels.length<=1099511627776:=hpre;clear hok;refine⟨by omega,a0r _,by omega,by omega,?_⟩;rw[a0m,ae5];refine br (fun (s:bpo)=>0<=s.1.2.2.1/\s.1.2.2.1<=labels.length/\NumM s.2.1 (gw (labels.take s.1.2.2.1.toNat))/\s.2.2.1=dv labels.length fun k=>if k<s.1.2.2.1 then gr (gw labels) (labels.getD k.toNat 0)else 0) (fun (s:bpo)=>(labels.length-s.1.2.2.1).toNat) ?_ ⟨by simp,by simp,⟨rfl,fun k=>rfl⟩,df fun k k0 _=>by dsimp only;rw[ds (by omega)]⟩;rintro⟨⟨_,_,i,_⟩,m,out,_⟩ next ⟨i0,i1,hM,ho⟩ hn _ _ _
 try dsimp only at i0 i1 hM ho hn⊢
 refine aq (fun hc=>?_) (fun hc=>?_)
 ·have hs:=@awb labels i i0 hc;have hex:=@aix labels (i+1).toNat (labels.getD i.toNat 0);have hml:m.length<=labels.length:=by rw[hM.n];have:=anq (labels.take i.toNat) [];rw[a1c]at this;simp only[a0p]at this;unfold gw;omega
  have hout:∀v:Int,v=gr (gw labels) (labels.getD i.toNat 0)->out.set i.toNat v=dv labels.length fun k=>if k<i+1 then gr (gw labels) (labels.getD k.toNat 0)else 0:=fun v hv=>by
   rw[ho,x4 i0 hc];refine df fun k k0 k1=>?_;by_cases h:k=i
   ·rw[d0 h,d0 (by omega),hv,h]
   ·rw[ds h];by_cases h2:k<i
    ·rw[d0 h2,d0 (by omega)]
    ·rw[ds h2,ds (by omega)]
  have hol:i<(out.length:Int):=by rw[ho,bj];exact hc
  rw[hs]at hex;generalize labels.getD i.toNat 0=k at *;refine⟨i0,hc,?_⟩;refine g6 (fun (s:bpo)=>NumM s.2.1 (lh (gw (labels.take i.toNat)) k)/\s.1.2.2.1=gr (gw labels) k/\s.2.2.1=out) (fun s ⟨s1,s2,s3⟩ _ _ _=>⟨i0,by rw[s3];exact hol,by rw[al];(try dsimp only);omega,hn _ ⟨by dsimp only;omega,by dsimp only;omega,by dsimp only;rw[hs];exact s1,by dsimp only;rw[s3];exact hout _ s2⟩ (by dsimp only;omega)⟩) (fun kk hk=>?_);have hf:=hM.f k;refine bc (fun hx=>?_) (fun hx=>?_)
  ·have hneg:gr (gw (labels.take i.toNat)) k<0:=by refine a3k fun h=>?_;rw[ds h]at hf;simp[ahh,hf]at hx
   have hd:lh (gw (labels.take i.toNat)) k=gw (labels.take i.toNat)++[k]:=by unfold lh;rw[d0 hneg]
   have hi:=auf hneg;rw[hd]at hex hk;rw[hi]at hex;refine⟨by unfold dz;rw[cj];omega,hk _ ⟨hM.add hneg,?_,rfl⟩⟩
   try dsimp only
   rw[hex (by omega),hM.n]
  ·have hpos:¬gr (gw (labels.take i.toNat)) k<0:=fun h=>by rw[d0 h]at hf;simp[ahh,hf]at hx
   have hd:lh (gw (labels.take i.toNat)) k=gw (labels.take i.toNat):=by unfold lh;rw[ds hpos]
   rw[ds hpos]at hf;rw[hd]at hex hk;refine hk _ ⟨hM,?_,rfl⟩
   try dsimp only
   rw[hex (by omega)];unfold pm;rw[hf];rfl
 ·have e:i=labels.length:=by omega
  subst e;simp only[oz,bp];rw[ho];congr 1;apply a15;intro k;rw[a05];by_cases hk:k<labels.length
  ·have h1:=@ou Int (fun k=>if k<(labels.length:Int)then gr (gw labels) (labels.getD k.toNat 0)else 0) 0 k labels.length (by omega) (by omega);rw[a0m,d0 (by omega),a0o,a0n (by rw[bj];exact hk)]at h1;rw[a0n (by rw[bj];exact hk),a0n hk];simp only[a02]at h1;rw[h1,a0o,a0n hk];rfl
  ·rw[a1o (by rw[bj];omega),a1o (by omega)];rfl
theorem asw:bz Tryz.prog 130 oz:=ci (Φ:=lkp []) ao bm (by kernel_rfl) (fn:=Tryz.f130) (c:=bg Tryz.f130) (by kernel_rfl) (by kernel_rfl) (by kernel_rfl) oz rfl asv (cu []) (by kernel_rfl) (by kernel_rfl) (by kernel_rfl) (by decide) (fun x K=>adw x.1 K) (fun _ _=>by kernel_rfl) (fun x h1 h2=>avz x.1 h1 h2)
def cy(j:List Int):List Int:=dv j.length (eu j)
def ar1(j:List Int):Nat->List Int
 |0=>j
 |n+1=>(cz (ar1 j n) n).1
def bmq(j:List Int):List Int:=ar1 j j.length
def fu:Wt:=⟨(.sl (.fz (.int .i64))),[],[],fun x y=>[UfP x,x.length<=1099511627776],fun x y=>bmq x,[(false,(.sl (.fz (.int .i64))))],fun x y=>(bp (cy x),())⟩
def sm:Ct:=att fu
def afp:Ann:=(.s .n (.s .n (.s (.s .n (.l [(0,(.ref 1000000 [])),(3,(.ref 7 [])),(10,(.d (.int .i64)))] [(1000000,(.sl (.fz (.int .i64)))),(7,(.sl (.fz (.int .i64))))] [9] .n)) .n)))
def afw:FuncId->Option Ct:=lkp [(129,xl),(130,oz)]
def yk(j:List Int)(K:(List Int)->bpb->Prop):Prop:=((0<=((j.length:Nat):Int))/\((((j.length:Nat):Int)<=((j.length:Nat):Int))/\((((j.length:Nat):Int)<=((140737488355328:Nat):Int))/\(((((j.length:Nat):Int)*((8:Nat):Int))<=((140737488355328:Nat):Int))/\(be (S:=bpl) (fun s=>(fun next=>((inK .i64 s.1.2.2.1)->((T.ok (.sl (.int .i64)) s.2.1)->((T.ok (.sl (.int .i64)) s.2.2.1)->(cnd (decide (s.1.2.2.1<((j.length:Nat):Int))) ((UfP s.2.1)/\((0<=s.1.2.2.1)/\((s.1.2.2.1<((s.2.1.length:Nat):Int))/\((0<=s.1.2.2.1)/\((s.1.2.2.1<((s.2.2.1.length:Nat):Int))/\((inK .i64 (s.1.2.2.1+1))/\(next (((),((),((s.1.2.2.1+1),()))),((cz s.2.1 s.1.2.2.1).1,((List.set s.2.2.1 s.1.2.2.1.toNat (cz s.2.1 s.1.2.2.1).2),())))))))))) ((s.2.2.1.length<=1099511627776)/\(K s.2.1 ((bp s.2.2.1),()))))))))) (((),((),(0,()))),(j,((List.replicate (Int.toNat ((j.length:Nat):Int)) (0:Int)),()))))))))
theorem agu(j:List Int)(hok:ae (fu.o.strip.oks j))(hok2:ae (okL fu.as (())))(hpre:ae (fu.pre j (()))):yk j (fun z r=>z=fu.new j (())/\r=fu.res j (())):=by
 simp only[fu,O.strip,okL,T.oks,T.ok,ap,ae,a0e,a0c,a0i]at hok hok2 hpre
 try dsimp only[T.den]at hok
 try dsimp only[T.den]at hok2
 try dsimp only[T.den]at hpre
 unfold yk;obtain⟨U,hl⟩:=hpre;clear hok;refine⟨by omega,a0r _,by omega,by omega,?_⟩;rw[a0m,ae5];refine br (fun (s:bpl)=>0<=s.1.2.2.1/\s.1.2.2.1<=j.length/\s.2.1=ar1 j s.1.2.2.1.toNat/\UfP s.2.1/\s.2.1.length=j.length/\(∀y:Int,0<=y->y<j.length->eu s.2.1 y=eu j y)/\s.2.2.1=dv j.length fun k=>if k<s.1.2.2.1 then eu j k else 0) (fun (s:bpl)=>(j.length-s.1.2.2.1).toNat) ?_ ⟨by simp,by simp,rfl,U,rfl,fun _ _ _=>rfl,df fun k k0 _=>by dsimp only;rw[ds (by omega)]⟩;rintro⟨⟨_,_,i,_⟩,l,out,_⟩ next ⟨i0,i1,hq,V,hll,hr,ho⟩ hn _ _ _
 try dsimp only at i0 i1 hq V hll hr ho hn⊢
 refine aq (fun hc=>?_) (fun hc=>?_)
 ·obtain⟨a1,a2,a3,a4⟩:=aij V i0 (by omega);refine⟨V,i0,by omega,i0,by rw[ho,bj];exact hc,by rw[al];(try dsimp only);omega,hn _ ⟨by dsimp only;omega,by dsimp only;omega,?_,a1,by dsimp only;rw[a2];exact hll,fun y y0 y1=>?_,?_⟩ (by dsimp only;omega)⟩
  ·try dsimp only
   rw[show (i+1).toNat=i.toNat+1 from by omega,ar1,hq,show ((i.toNat:Nat):Int)=i from by omega]
  ·try dsimp only;rw[a4 y y0 (by omega),hr y y0 y1]
  ·try dsimp only
   rw[ho,x4 i0 hc];refine df fun k k0 k1=>?_;by_cases h:k=i
   ·rw[d0 h,d0 (by omega),a3,hr i i0 hc,h]
   ·rw[ds h];by_cases h2:k<i
    ·rw[d0 h2,d0 (by omega)]
    ·rw[ds h2,ds (by omega)]
 ·have e:i=j.length:=by omega
  subst e;have hrep:out=cy j:=by rw[ho];exact df fun k _ k1=>by rw[d0 k1]
  refine⟨by rw[ho,bj];exact hl,?_⟩;rw[a0m]at hq;exact⟨hq,by rw[hrep];rfl⟩
theorem xw:bz Tryz.prog 116 sm:=bde (Φ:=afw) (ai abd (ai asw ao)) bm (by kernel_rfl) (fn:=Tryz.f116) (c:=bg Tryz.f116) (by kernel_rfl) (by kernel_rfl) (by kernel_rfl) fu afp (cu []) (by kernel_rfl) (by kernel_rfl) (by kernel_rfl) (by decide) (by kernel_rfl) (fun x y h1 h2 h3=>Eq.mp (by kernel_rfl) (agu x h1 h2 h3))
def eh(p:List Int):Int:=p.foldl (fun n k=>mxR n (k+1)) 0
theorem boe{p:List Int}{i:Int}(i0:0<=i)(i1:i<p.length):eh (p.take (i+1).toNat)=mxR (eh (p.take i.toNat)) (p.getD i.toNat 0+1):=by rw[mt p 0 i0 i1];unfold eh;rw[a3c];rfl
def eg:Ct:=⟨[(.sl (.int .i64))],[false],fun x=>[x.1.length<=1099511627776,bh x.1 1099511627776=true],[(false,(.fz (.int .i64)))],fun x=>(eh x.1,()),false,none⟩
def aet:Ann:=(.s .n (.s .n (.s (.s .n (.l [(3,(.d (.int .i64))),(8,(.d (.int .i64)))] [] [6,7] .n)) .n)))
def rz(p:List Int)(K:Int×Unit->Prop):Prop:=(be (S:=bph) (fun s=>(fun next=>((inK .i64 s.1.1)->((inK .i64 s.1.2.1)->(cnd (decide (s.1.2.1<((p.length:Nat):Int))) ((0<=s.1.2.1)/\((s.1.2.1<((p.length:Nat):Int))/\((inK .i64 ((p.getD s.1.2.1.toNat 0)+1))/\((inK .i64 (s.1.2.1+1))/\(next (((mxR s.1.1 ((p.getD s.1.2.1.toNat 0)+1)),((s.1.2.1+1),())),())))))) (K (s.1.1,()))))))) ((0,(0,())),()))
theorem agm(p:List Int)(hok:ae (okL eg.args (p,())))(hpre:ae (eg.pre (p,()))):rz p (fun r=>r=eg.res (p,())):=by
 simp only[eg,okL,T.oks,T.ok,ap,ae,a0e,a0c,a0i]at hok hpre
 try dsimp only[T.den]at hok hpre
 unfold rz;obtain⟨hl,hw⟩:=hpre;clear hok;refine br (fun (s:bph)=>0<=s.1.2.1/\s.1.2.1<=p.length/\s.1.1=eh (p.take s.1.2.1.toNat)) (fun (s:bph)=>(p.length-s.1.2.1).toNat) ?_ ⟨by simp,by simp,rfl⟩;rintro⟨⟨n,i,_⟩,_⟩ next ⟨i0,i1,hq⟩ hn _ _
 try dsimp only at i0 i1 hq hn⊢
 refine aq (fun hc=>?_) (fun hc=>?_)
 ·have hk:=kt.1 hw i i0 hc;refine⟨i0,hc,by rw[al];(try dsimp only);omega,by rw[al];(try dsimp only);omega,hn _ ⟨by dsimp only;omega,by dsimp only;omega,?_⟩ (by dsimp only;omega)⟩
  try dsimp only
  rw[boe i0 hc,hq]
 ·simp only[eg];rw[hq,qv _ (by omega)]
theorem ww:bz Tryz.prog 117 eg:=ci (Φ:=lkp []) ao bm (by kernel_rfl) (fn:=Tryz.f117) (c:=bg Tryz.f117) (by kernel_rfl) (by kernel_rfl) (by kernel_rfl) eg rfl aet (cu []) (by kernel_rfl) (by kernel_rfl) (by kernel_rfl) (by decide) (fun x K=>rz x.1 K) (fun _ _=>by kernel_rfl) (fun x h1 h2=>agm x.1 h1 h2)
def qd(p q:ac):Int:=if (p.2.length:Int)-q.2.length≠0 then (p.2.length:Int)-q.2.length else fk p.2 q.2
def gj:Ct:=⟨[PathT,PathT],[true,true],fun x=>[x.1.2.length<=1000000,x.2.1.2.length<=1000000],[(false,(.fz (.int .i64)))],fun x=>(qd x.1 x.2.1,()),false,none⟩
def wq(p:ac)(q:ac)(K:Int×Unit->Prop):Prop:=((inK .i64 (((p.2.length:Nat):Int)-((q.2.length:Nat):Int)))/\(cnd ((((p.2.length:Nat):Int)-((q.2.length:Nat):Int)) != 0) (K ((((p.2.length:Nat):Int)-((q.2.length:Nat):Int)),())) (K ((fk p.2 q.2),()))))
theorem ak0(p:ac)(q:ac)(hok:ae (okL gj.args (p,q,())))(hpre:ae (gj.pre (p,q,()))):wq p q (fun r=>r=gj.res (p,q,())):=by
 simp only[gj,okL,T.oks,T.ok,ap,ae,a0e,a0c,a0i]at hok hpre
 try dsimp only[T.den]at hok hpre
 unfold wq;obtain⟨h1,h2⟩:=hpre;simp only[gj,qd];refine⟨by rw[al];(try dsimp only);omega,bc (fun h=>?_) (fun h=>?_)⟩
 ·rw[a37]at h;rw[d0 h]
 ·have h:=a1j.1 h;rw[ds (fun hh=>hh h)]
theorem vj:bz Tryz.prog 118 gj:=ci (Φ:=lkp [(106,gf)]) (ai aak ao) bm (by kernel_rfl) (fn:=Tryz.f118) (c:=bg Tryz.f118) (by kernel_rfl) (by kernel_rfl) (by kernel_rfl) gj rfl .n (cu []) (by kernel_rfl) (by kernel_rfl) (by kernel_rfl) (by decide) (fun x K=>wq x.1 x.2.1 K) (fun _ _=>by kernel_rfl) (fun x h1 h2=>ak0 x.1 x.2.1 h1 h2)
def dc(n:Int):List Int:=dv n.toNat fun i=>i
theorem boq{n:Nat}{i:Int}(i0:0<=i)(i1:i<n):(dv n fun k=>if k<i then k else 0).set i.toNat i=dv n fun k=>if k<i+1 then k else 0:=by
 rw[x4 i0 i1];refine df fun k k0 k1=>?_;by_cases h:k=i
 ·rw[d0 h,d0 (by omega),h]
 ·rw[ds h];by_cases h2:k<i
  ·rw[d0 h2,d0 (by omega)]
  ·rw[ds h2,ds (by omega)]
def mb:Ct:=⟨[(.int .i64)],[false],fun x=>[0<=x.1,x.1<=1099511627776],[(false,(.sl (.fz (.int .i64))))],fun x=>(dc x.1,()),false,none⟩
def ara:Ann:=(.s .n (.s .n (.s (.s .n (.l [(3,(.ref 6 [])),(9,(.d (.int .i64)))] [(6,(.sl (.fz (.int .i64))))] [8] .n)) .n)))
def ab2(n:Int)(K:(List Int)×Unit->Prop):Prop:=((0<=n)/\((n<=n)/\((n<=((140737488355328:Nat):Int))/\(((n*((8:Nat):Int))<=((140737488355328:Nat):Int))/\(be (S:=(bpa×bpb)) (fun s=>(fun next=>((inK .i64 s.1.2.1)->((T.ok (.sl (.int .i64)) s.2.1)->(cnd (decide (s.1.2.1<(((List.length (List.replicate n.toNat (0:Int))):Nat):Int))) ((0<=s.1.2.1)/\((s.1.2.1<((s.2.1.length:Nat):Int))/\((inK .i64 (s.1.2.1+1))/\(next (((),((s.1.2.1+1),())),((List.set s.2.1 s.1.2.1.toNat s.1.2.1),())))))) (K (s.2.1,()))))))) (((),(0,())),((List.replicate n.toNat (0:Int)),())))))))
theorem aty(n:Int)(hok:ae (okL mb.args (n,())))(hpre:ae (mb.pre (n,()))):ab2 n (fun r=>r=mb.res (n,())):=by
 simp only[mb,okL,T.oks,T.ok,ap,ae,a0e,a0c,a0i]at hok hpre
 try dsimp only[T.den]at hok hpre
 unfold ab2;obtain⟨n0,n1⟩:=hpre;refine⟨n0,a0r _,by omega,by omega,?_⟩;rw[ae5,bj];refine aby (n:=(n.toNat:Int)) (fun i=>dv n.toNat fun k=>if k<i then k else 0) (by omega) (df fun k k0 _=>by rw[ds (by omega)]) ?_ ?_
 ·intro i next i0 i1 hn _ _
  try dsimp only at hn⊢
  rw[←boq i0 i1]at hn;exact aq (fun _=>⟨i0,by rw[bj];exact i1,by rw[al];(try dsimp only);omega,hn⟩) (fun h=>absurd i1 h)
 ·intro next _ _
  refine aq (fun h=>absurd h (a21 _)) (fun _=>?_);simp only[mb,dc];exact congrArg (fun z=>(z,())) (df fun k _ k1=>by rw[d0 k1])
theorem ag6:bz Tryz.prog 119 mb:=ci (Φ:=lkp []) ao bm (by kernel_rfl) (fn:=Tryz.f119) (c:=bg Tryz.f119) (by kernel_rfl) (by kernel_rfl) (by kernel_rfl) mb rfl ara (cu []) (by kernel_rfl) (by kernel_rfl) (by kernel_rfl) (by decide) (fun x K=>ab2 x.1 K) (fun _ _=>by kernel_rfl) (fun x h1 h2=>aty x.1 h1 h2)
def mi:Ct:=⟨[(.int .i64)],[false],fun x=>[0<=x.1,x.1<=1099511627776],[(false,(.sl (.fz (.int .i64))))],fun x=>(dc x.1,()),false,none⟩
def aa0(n:Int)(K:(List Int)×Unit->Prop):Prop:=((0<=n)/\((n<=1099511627776)/\(K ((dc n),()))))
theorem ar5(n:Int)(hok:ae (okL mi.args (n,())))(hpre:ae (mi.pre (n,()))):aa0 n (fun r=>r=mi.res (n,())):=by
 simp only[mi,okL,T.oks,T.ok,ap,ae,a0e,a0c,a0i]at hok hpre
 try dsimp only[T.den]at hok hpre
 unfold aa0;exact⟨hpre.1,hpre.2,rfl⟩
theorem afm:bz Tryz.prog 112 mi:=ci (Φ:=lkp [(119,mb)]) (ai ag6 ao) bm (by kernel_rfl) (fn:=Tryz.f112) (c:=bg Tryz.f112) (by kernel_rfl) (by kernel_rfl) (by kernel_rfl) mi rfl .n (cu []) (by kernel_rfl) (by kernel_rfl) (by kernel_rfl) (by decide) (fun x K=>aa0 x.1 K) (fun _ _=>by kernel_rfl) (fun x h1 h2=>ar5 x.1 h1 h2)
end Go.Bm
