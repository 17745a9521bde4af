/- What the functions that FnPathsComposed reaches give: for each its contract, what it asks, and the proof. No condition. -/
import Derived.Test.YtdcandojebpfnaaTab
import Derived.Shelf.SlSortCmp.NoneTotal
import Derived.Shelf.SlGeneric
import Derived.Ground.SlsfProg
namespace Go.Bm
open Go.Proofs
abbrev brb:Type:=(Int×((List Int)×((List Int)×((List Int)×(List (List Int))))))
abbrev brc:Type:=(Unit×(Unit×(Int×Unit)))
abbrev brd:Type:=((List Int)×(Int×Int))
abbrev bre:Type:=((Unit×brc)×(brb×(brb×((List Int)×Unit))))
abbrev brf:Type:=(brb×(brb×Unit))
abbrev brg:Type:=((List Int)×Unit)
abbrev brh:Type:=(Unit×(Int×Unit))
abbrev bri:Type:=((Unit×(Unit×(Unit×Unit)))×(brd×brf))
abbrev brj:Type:=((List (List Int))×Unit)
abbrev brk:Type:=((List (Int×(Int×(List Int))))×Unit)
abbrev brl:Type:=((Int×Unit)×Unit)
abbrev brm:Type:=((List ((Int×Int)×(List Int)))×Unit)
abbrev brn:Type:=(Int×Int×List Int)
abbrev bro:Type:=((Unit×(Unit×brc))×(brb×(brb×((List (List Int))×brg))))
abbrev brp:Type:=(Unit×(Unit×Unit))
abbrev brq:Type:=(brc×(brd×brj))
abbrev brr:Type:=((Unit×(Unit×(Unit×(Bool×Unit))))×(brd×brf))
abbrev brs:Type:=((List Int)×brg)
abbrev brt:Type:=(List (List Int))
abbrev bru:Type:=(Unit×(Unit×(Unit×(Int×(Int×Unit)))))
abbrev brv:Type:=(Unit×(Unit×brc))
abbrev brw:Type:=(brh×((List (List Bool))×Unit))
abbrev brx:Type:=(brh×(brd×Unit))
abbrev bry:Type:=((Int×(Int×Unit))×Unit)
abbrev brz:Type:=((Int×Int)×(List Int))
abbrev br0:Type:=(brb×(brt×(brb×brg)))
abbrev br1:Type:=((Unit×brc)×(brb×(brt×(brb×Unit))))
abbrev br2:Type:=(Int×(Int×(List Int)))
set_option maxRecDepth 100000
set_option maxHeartbeats 1000000
set_option linter.unusedVariables false
set_option linter.unusedSimpArgs false
noncomputable section
def ck (s:ah):Prop:=ae (T.oks bp s)/\0<=s.2.1
theorem bmj {x:Int}:inK .u64 x<->0<=x/\x<=18446744073709551615:=by
 unfold inK;exact Iff.rfl
theorem inK8 {x:Int}:inK .u8 x<->0<=x/\x<=255:=by
 unfold inK;exact Iff.rfl
theorem bkp (a:Int):0<=aej .u64 a 16777215/\aej .u64 a 16777215<=16777215:=by
 have h:((BitVec.ofInt IntKind.u64.bits a &&& BitVec.ofInt IntKind.u64.bits 16777215).toNat:Nat)<=16777215:=by
  rw [BitVec.toNat_and];exact Nat.le_trans Nat.and_le_right (by decide)
 unfold aej
 rw [ae5 (by rw [bmj];omega)]
 omega
theorem bi7 {a:Int} (h:inK .u64 a):inK .u64 (zp .u64 a 33):=by
 rw [bmj]at h ⊢
 have e:zp .u64 a 33=a / 8589934592:=by
  show a.fdiv 8589934592=_
  rw [Int.fdiv_eq_ediv_of_nonneg _ (by decide)]
 rw [e];omega
def fu:Wt:=⟨(.pt (.fz bp)),[(.int .i64)],[false],fun x y=>[0<=x.2.1],fun x _=>x,[(false,(.fz (.int .i64)))],fun _ _=>dfR _⟩
def xj (s:ah) (n:Int) (z:ah) (r0:Int):Prop:=0<=z.2.1/\0<=r0/\(1<=n->r0 < n)/\(n < 1->r0=0)
def aad:Ann:=(.s .n (.s .n (.s .n (.s .n (.s (.s .n (.j [(0,(.ad 1000000 [.de])),(5,(.d (.int .i64)))] [(1000000,(.pt (.fz (.p (.sl (.int .u8)) (.p (.int .i64) (.int .u64))))))] [1] .n)) .n)))))
def uk (s:ah) (n:Int) (K:ah->(Int×Unit)->Prop):Prop:=(cnd (decide (n < 1)) (K s (0,())) (((0:Int)<=33)/\((inK .u64 (zp .u64 (IntKind.wrap .u64 ((IntKind.wrap .u64 (s.2.2 * 6364136223846793005))+1442695040888963407)) 33))/\(fk (S:=brx) (fun s1=>((inK .i64 s1.1.2.1)->((T.ok (.sl (.int .u8)) s1.2.1.1)->((inK .i64 s1.2.1.2.1)->((inK .u64 s1.2.1.2.2)->((n ≠ 0)/\((inK .i64 (Int.tmod s1.1.2.1 n))/\(K s1.2.1 ((Int.tmod s1.1.2.1 n),()))))))))) (fun k=>(cnd (decide (s.2.1 < ((s.1.length:Nat):Int))) ((0<=s.2.1)/\((s.2.1 < ((s.1.length:Nat):Int))/\((inK .i64 ((IntKind.wrap .i64 (aej .u64 (zp .u64 (IntKind.wrap .u64 ((IntKind.wrap .u64 (s.2.2 * 6364136223846793005))+1442695040888963407)) 33) 16777215))+(IntKind.wrap .i64 (List.getD s.1 s.2.1.toNat 0))))/\((inK .i64 (s.2.1+1))/\(k (((),(((IntKind.wrap .i64 (aej .u64 (zp .u64 (IntKind.wrap .u64 ((IntKind.wrap .u64 (s.2.2 * 6364136223846793005))+1442695040888963407)) 33) 16777215))+(IntKind.wrap .i64 (List.getD s.1 s.2.1.toNat 0))),())),((s.1,((s.2.1+1),(IntKind.wrap .u64 ((IntKind.wrap .u64 (s.2.2 * 6364136223846793005))+1442695040888963407)))),()))))))) (k (((),((IntKind.wrap .i64 (aej .u64 (zp .u64 (IntKind.wrap .u64 ((IntKind.wrap .u64 (s.2.2 * 6364136223846793005))+1442695040888963407)) 33) 16777215)),())),((s.1,(s.2.1,(IntKind.wrap .u64 ((IntKind.wrap .u64 (s.2.2 * 6364136223846793005))+1442695040888963407)))),())))))))))
theorem ayj (x:fu.o.strip.den) (y:bi fu.as) (K:ah->(Int×Unit)->Prop):pc tab (lkp []) (aw [(5,9),(6,12)]) Try.f79 (aj Try.f79) aad fu x y K=uk x y.1 K:=by kernel_rfl
theorem als:okC Try.f79.ntmps (aw [(5,9),(6,12)]) (aj Try.f79)=true:=by kernel_rfl
theorem axf (s:ah) (n:Int) (hok:ae (fu.o.strip.oks s)) (hok2:ae (okL fu.as (n,()))) (hpre:ae (fu.pre s (n,()))):uk s n (fun z r=>xj s n z r.1):=by
 simp only [fu,O.strip,okL,T.oks,T.ok,ap,ae,true_and,and_true,implies_true]at hok hok2 hpre
 try dsimp only [T.den]at hok
 try dsimp only [T.den]at hok2
 try dsimp only [T.den]at hpre
 unfold uk xj
 obtain ⟨⟨hc1,hc2⟩,ha,hh⟩:=hok
 rw [fy]at hc1
 generalize hx:IntKind.wrap .u64 (IntKind.wrap .u64 (s.2.2 * 6364136223846793005)+1442695040888963407)=x
 have hxk:inK .u64 x:=by rw [← hx];exact y8 _ _
 have hm:=bkp (zp .u64 x 33)
 generalize aej .u64 (zp .u64 x 33) 16777215=y at hm
 refine bf (fun hn=>⟨hpre,Int.le_refl _,fun h=>by omega,fun _=>rfl⟩) (fun hn=>⟨by omega,bi7 hxk,?_⟩)
 rw [ae5 (show inK .i64 y by rw [au];(try dsimp only);omega)]
 refine dn (fun s1=>0<=s1.2.1.2.1/\0<=s1.1.2.1) (fun s1 hs _ _ _ _=>?_) (fun k hk=>bf (fun hc=>?_) (fun hc=>hk _ ⟨hpre,hm.1⟩))
 ·have h1:=Int.tmod_nonneg n hs.2
  have h2:=Int.tmod_lt_of_pos s1.1.2.1 (show 0 < n by omega)
  have hn2:=au.1 hok2
  exact ⟨by omega,by rw [au];(try dsimp only);omega,hs.1,h1,fun _=>h2,fun h=>by omega⟩
 ·have hb:=inK8.1 (hc2 _ (gf s.1 0 hpre hc))
  rw [ae5 (show inK .i64 (s.1.getD s.2.1.toNat 0) by rw [au];(try dsimp only);omega)]
  exact ⟨hpre,hc,by rw [au];(try dsimp only);omega,by rw [au];(try dsimp only);omega,hk _ ⟨by dsimp only;omega,by dsimp only;omega⟩⟩
theorem abm (s:ah) (n:Int):∃ q:ah×(Int×Unit),ae (fu.o.strip.oks s)->ae (okL fu.as (n,()))->ae (fu.pre s (n,()))->uk s n (fun z r=>z=q.1/\r=q.2)/\ae (fu.o.strip.oks q.1)/\ae (okR fu.rt q.2)/\xj s n q.1 q.2.1:=
 xk (f:=79) (Φ:=lkp []) ba bo (by kernel_rfl) (fn:=Try.f79) (c:=aj Try.f79) (by kernel_rfl) (by kernel_rfl) (by kernel_rfl) fu aad (aw [(5,9),(6,12)]) (ot (by kernel_rfl)) (by kernel_rfl) (by kernel_rfl) als (by decide) (by kernel_rfl) (by kernel_rfl) bp rfl (by kernel_rfl) (fun x y K=>uk x y.1 K) ayj (fun x y z r=>xj x y.1 z r.1) (fun x y h1 h2 h3=>axf x y.1 h1 h2 h3) s (n,())
def aa (s:ah) (n:Int):ah:=(abm s n).choose.1
def ab (s:ah) (n:Int):Int:=(abm s n).choose.2.1
theorem ayt (s:ah) (n:Int) (hok:ae (fu.o.strip.oks s)) (hok2:ae (okL fu.as (n,()))) (hpre:ae (fu.pre s (n,()))):ae (fu.o.strip.oks (aa s n))/\ae (okR fu.rt (ab s n,()))/\xj s n (aa s n) (ab s n):=((abm s n).choose_spec hok hok2 hpre).2
def wi:Wt:=⟨(.pt (.fz bp)),[(.int .i64)],[false],fun x y=>[0<=x.2.1],fun x y=>(aa x y.1),[(false,(.fz (.int .i64)))],fun x y=>((ab x y.1),())⟩
def ez:Ct:=ac8 wi
theorem aud (x:wi.o.strip.den) (y:bi wi.as) (K:ah->(Int×Unit)->Prop):pc tab (lkp []) (aw [(5,9),(6,12)]) Try.f79 (aj Try.f79) aad wi x y K=uk x y.1 K:=by kernel_rfl
theorem du:dg Try.prog 79 ez:=
 acx (Φ:=lkp []) ba bo (by kernel_rfl) (fn:=Try.f79) (c:=aj Try.f79) (by kernel_rfl) (by kernel_rfl) (by kernel_rfl) wi aad (aw [(5,9),(6,12)]) (by kernel_rfl) (by kernel_rfl) als (by decide) (by kernel_rfl) (fun x y h1 h2 h3=>(aud x y _).mpr ((abm x y.1).choose_spec h1 h2 h3).1)
theorem je {s:ah} {n:Int} (h:ck s) (hn:inK .i64 n):ck (aa s n)/\0<=ab s n/\(1<=n->ab s n < n)/\(n < 1->ab s n=0):=by
 obtain ⟨h1,h2,h3,h4⟩:=ayt s n h.1 ⟨hn,trivial⟩ ⟨h.2,trivial⟩
 exact ⟨⟨h1,h3⟩,h4⟩
def dx:Wt:=⟨(.pt (.fz bp)),[(.int .i64)],[false],fun x y=>[0<=x.2.1],fun x _=>x,[(false,(.fz (.int .i64)))],fun _ _=>dfR _⟩
def tf (d:ah) (n:Int) (z:ah) (r0:Int):Prop:=0<=z.2.1/\0<=r0/\(1<=n->r0 < n)/\(n < 1->r0=0)
def vz:Ann:=(.s .n (.s .n (.s .n (.s .n (.s (.s .n (.j [(0,(.ad 1000000 [.de])),(5,(.d (.int .i64)))] [(1000000,(.pt (.fz (.p (.sl (.int .u8)) (.p (.int .i64) (.int .u64))))))] [1] .n)) .n)))))
def qb (d:ah) (n:Int) (K:ah->(Int×Unit)->Prop):Prop:=(cnd (decide (n < 1)) (K d (0,())) (((0:Int)<=33)/\((inK .u64 (zp .u64 (IntKind.wrap .u64 ((IntKind.wrap .u64 (d.2.2 * 6364136223846793005))+1442695040888963407)) 33))/\(fk (S:=brx) (fun s=>((inK .i64 s.1.2.1)->((T.ok (.sl (.int .u8)) s.2.1.1)->((inK .i64 s.2.1.2.1)->((inK .u64 s.2.1.2.2)->((n ≠ 0)/\((inK .i64 (Int.tmod s.1.2.1 n))/\(K s.2.1 ((Int.tmod s.1.2.1 n),()))))))))) (fun k=>(cnd (decide (d.2.1 < ((d.1.length:Nat):Int))) ((0<=d.2.1)/\((d.2.1 < ((d.1.length:Nat):Int))/\((inK .i64 ((IntKind.wrap .i64 (aej .u64 (zp .u64 (IntKind.wrap .u64 ((IntKind.wrap .u64 (d.2.2 * 6364136223846793005))+1442695040888963407)) 33) 16777215))+(IntKind.wrap .i64 (List.getD d.1 d.2.1.toNat 0))))/\((inK .i64 (d.2.1+1))/\(k (((),(((IntKind.wrap .i64 (aej .u64 (zp .u64 (IntKind.wrap .u64 ((IntKind.wrap .u64 (d.2.2 * 6364136223846793005))+1442695040888963407)) 33) 16777215))+(IntKind.wrap .i64 (List.getD d.1 d.2.1.toNat 0))),())),((d.1,((d.2.1+1),(IntKind.wrap .u64 ((IntKind.wrap .u64 (d.2.2 * 6364136223846793005))+1442695040888963407)))),()))))))) (k (((),((IntKind.wrap .i64 (aej .u64 (zp .u64 (IntKind.wrap .u64 ((IntKind.wrap .u64 (d.2.2 * 6364136223846793005))+1442695040888963407)) 33) 16777215)),())),((d.1,(d.2.1,(IntKind.wrap .u64 ((IntKind.wrap .u64 (d.2.2 * 6364136223846793005))+1442695040888963407)))),())))))))))
theorem aq0 (x:dx.o.strip.den) (y:bi dx.as) (K:ah->(Int×Unit)->Prop):pc tab (lkp []) (aw [(5,9),(6,12)]) Try.f13 (aj Try.f13) vz dx x y K=qb x y.1 K:=by kernel_rfl
theorem ag2:okC Try.f13.ntmps (aw [(5,9),(6,12)]) (aj Try.f13)=true:=by kernel_rfl
theorem aq5 (d:ah) (n:Int) (hok:ae (dx.o.strip.oks d)) (hok2:ae (okL dx.as (n,()))) (hpre:ae (dx.pre d (n,()))):qb d n (fun z r=>tf d n z r.1):=by
 simp only [dx,O.strip,okL,T.oks,T.ok,ap,ae,true_and,and_true,implies_true]at hok hok2 hpre
 try dsimp only [T.den]at hok
 try dsimp only [T.den]at hok2
 try dsimp only [T.den]at hpre
 unfold qb tf
 obtain ⟨⟨hc1,hc2⟩,ha,hh⟩:=hok
 rw [fy]at hc1
 generalize hx:IntKind.wrap .u64 (IntKind.wrap .u64 (d.2.2 * 6364136223846793005)+1442695040888963407)=x
 have hxk:inK .u64 x:=by rw [← hx];exact y8 _ _
 have hm:=bkp (zp .u64 x 33)
 generalize aej .u64 (zp .u64 x 33) 16777215=y at hm
 refine bf (fun hn=>⟨hpre,Int.le_refl _,fun h=>by omega,fun _=>rfl⟩) (fun hn=>⟨by omega,bi7 hxk,?_⟩)
 rw [ae5 (show inK .i64 y by rw [au];(try dsimp only);omega)]
 refine dn (fun s1=>0<=s1.2.1.2.1/\0<=s1.1.2.1) (fun s1 hs _ _ _ _=>?_) (fun k hk=>bf (fun hc=>?_) (fun hc=>hk _ ⟨hpre,hm.1⟩))
 ·have h1:=Int.tmod_nonneg n hs.2
  have h2:=Int.tmod_lt_of_pos s1.1.2.1 (show 0 < n by omega)
  have hn2:=au.1 hok2
  exact ⟨by omega,by rw [au];(try dsimp only);omega,hs.1,h1,fun _=>h2,fun h=>by omega⟩
 ·have hb:=inK8.1 (hc2 _ (gf d.1 0 hpre hc))
  rw [ae5 (show inK .i64 (d.1.getD d.2.1.toNat 0) by rw [au];(try dsimp only);omega)]
  exact ⟨hpre,hc,by rw [au];(try dsimp only);omega,by rw [au];(try dsimp only);omega,hk _ ⟨by dsimp only;omega,by dsimp only;omega⟩⟩
theorem wz (d:ah) (n:Int):∃ q:ah×(Int×Unit),ae (dx.o.strip.oks d)->ae (okL dx.as (n,()))->ae (dx.pre d (n,()))->qb d n (fun z r=>z=q.1/\r=q.2)/\ae (dx.o.strip.oks q.1)/\ae (okR dx.rt q.2)/\tf d n q.1 q.2.1:=
 xk (f:=13) (Φ:=lkp []) ba bo (by kernel_rfl) (fn:=Try.f13) (c:=aj Try.f13) (by kernel_rfl) (by kernel_rfl) (by kernel_rfl) dx vz (aw [(5,9),(6,12)]) (ot (by kernel_rfl)) (by kernel_rfl) (by kernel_rfl) ag2 (by decide) (by kernel_rfl) (by kernel_rfl) bp rfl (by kernel_rfl) (fun x y K=>qb x y.1 K) aq0 (fun x y z r=>tf x y.1 z r.1) (fun x y h1 h2 h3=>aq5 x y.1 h1 h2 h3) d (n,())
def vu (d:ah) (n:Int):ah:=(wz d n).choose.1
def bh (d:ah) (n:Int):Int:=(wz d n).choose.2.1
theorem aq1 (d:ah) (n:Int) (hok:ae (dx.o.strip.oks d)) (hok2:ae (okL dx.as (n,()))) (hpre:ae (dx.pre d (n,()))):ae (dx.o.strip.oks (vu d n))/\ae (okR dx.rt (bh d n,()))/\tf d n (vu d n) (bh d n):=((wz d n).choose_spec hok hok2 hpre).2
def rn:Wt:=⟨(.pt (.fz bp)),[(.int .i64)],[false],fun x y=>[0<=x.2.1],fun x y=>(vu x y.1),[(false,(.fz (.int .i64)))],fun x y=>((bh x y.1),())⟩
def ag1:Ct:=ac8 rn
theorem apb (x:rn.o.strip.den) (y:bi rn.as) (K:ah->(Int×Unit)->Prop):pc tab (lkp []) (aw [(5,9),(6,12)]) Try.f13 (aj Try.f13) vz rn x y K=qb x y.1 K:=by kernel_rfl
theorem apt:dg Try.prog 13 ag1:=
 acx (Φ:=lkp []) ba bo (by kernel_rfl) (fn:=Try.f13) (c:=aj Try.f13) (by kernel_rfl) (by kernel_rfl) (by kernel_rfl) rn vz (aw [(5,9),(6,12)]) (by kernel_rfl) (by kernel_rfl) ag2 (by decide) (by kernel_rfl) (fun x y h1 h2 h3=>(apb x y _).mpr ((wz x y.1).choose_spec h1 h2 h3).1)
theorem bom {d:ah} {n:Int} (h:ck d) (hn:inK .i64 n):ck (vu d n)/\0<=bh d n/\(1<=n->bh d n < n):=by
 obtain ⟨h1,h2,h3,h4⟩:=aq1 d n h.1 ⟨hn,trivial⟩ ⟨h.2,trivial⟩
 exact ⟨⟨h1,h3⟩,h4.1,h4.2.1⟩
def cq (c:ac) (f g:Int):Int:=(c.2.2.2.2.getD f.toNat []).getD g.toNat 0
def g9:Ct:=⟨[(.pt bj),(.int .i64),(.int .i64)],[false,false,false],fun x=>[0<=x.2.1,x.2.1 < x.1.2.2.2.2.length,0<=x.2.2.1,x.2.2.1 < (x.1.2.2.2.2.getD x.2.1.toNat []).length],[(false,(.fz (.int .i64)))],fun x=>(cq x.1 x.2.1 x.2.2.1,()),false,none⟩
def tu (c:ac) (f:Int) (g:Int) (K:Int×Unit->Prop):Prop:=((0<=f)/\((f < ((c.2.2.2.2.length:Nat):Int))/\((0<=g)/\((g < (((List.length (List.getD c.2.2.2.2 f.toNat [])):Nat):Int))/\(K ((List.getD (List.getD c.2.2.2.2 f.toNat []) g.toNat 0),()))))))
theorem anx (x:bi g9.args) (K:Int×Unit->Prop):evF tab (lkp []) (aw []) Try.f67 (aj Try.f67) .n g9 x K=tu x.1 x.2.1 x.2.2.1 K:=by kernel_rfl
theorem anw:okC Try.f67.ntmps (aw []) (aj Try.f67)=true:=by kernel_rfl
theorem amp (c:ac) (f:Int) (g:Int) (hok:ae (okL g9.args (c,f,g,()))) (hpre:ae (g9.pre (c,f,g,()))):tu c f g (fun r=>r=g9.res (c,f,g,())):=by
 simp only [g9,okL,T.oks,T.ok,ap,ae,true_and,and_true,implies_true]at hok hpre
 try dsimp only [T.den]at hok
 try dsimp only [T.den]at hpre
 unfold tu
 exact ⟨hpre.1,hpre.2.1,hpre.2.2.1,hpre.2.2.2,rfl⟩
theorem x8:dg Try.prog 67 g9:=
 d7 (Φ:=lkp []) ba bo (by kernel_rfl) (fn:=Try.f67) (c:=aj Try.f67) (by kernel_rfl) (by kernel_rfl) (by kernel_rfl) g9 rfl .n (aw []) (by kernel_rfl) (by kernel_rfl) anw (by decide) (fun x K=>tu x.1 x.2.1 x.2.2.1 K) anx (fun x h1 h2=>amp x.1 x.2.1 x.2.2.1 h1 h2)
def e9:Ct:=⟨[(.pt bj)],[false],fun x=>[],[(false,(.fz (.int .i64)))],fun x=>((x.1.2.1.length:Int),()),false,none⟩
def ri (c:ac) (K:Int×Unit->Prop):Prop:=(K (((c.2.1.length:Nat):Int),()))
theorem akj (x:bi e9.args) (K:Int×Unit->Prop):evF tab (lkp []) (aw []) Try.f40 (aj Try.f40) .n e9 x K=ri x.1 K:=by kernel_rfl
theorem ak2:okC Try.f40.ntmps (aw []) (aj Try.f40)=true:=by kernel_rfl
theorem akz (c:ac) (hok:ae (okL e9.args (c,()))) (hpre:ae (e9.pre (c,()))):ri c (fun r=>r=e9.res (c,())):=by
 simp only [e9,okL,T.oks,T.ok,ap,ae,true_and,and_true,implies_true]at hok hpre
 try dsimp only [T.den]at hok
 try dsimp only [T.den]at hpre
 unfold ri
 rfl
theorem nv:dg Try.prog 40 e9:=
 d7 (Φ:=lkp []) ba bo (by kernel_rfl) (fn:=Try.f40) (c:=aj Try.f40) (by kernel_rfl) (by kernel_rfl) (by kernel_rfl) e9 rfl .n (aw []) (by kernel_rfl) (by kernel_rfl) ak2 (by decide) (fun x K=>ri x.1 K) akj (fun x h1 h2=>akz x.1 h1 h2)
def ju:Ct:=⟨[(.pt bj),(.int .i64)],[false,false],fun x=>[0<=x.2.1,x.2.1 < x.1.2.1.length,x.2.1 < x.1.2.2.1.length],[(true,(.fz bnp))],fun x=>(((x.1.2.1.getD x.2.1.toNat 0,x.1.2.2.1.getD x.2.1.toNat 0):Int×Int),()),false,none⟩
def ti (c:ac) (f:Int) (K:bgr×Unit->Prop):Prop:=((0<=f)/\((f < ((c.2.1.length:Nat):Int))/\((0<=f)/\((f < ((c.2.2.1.length:Nat):Int))/\(K (((List.getD c.2.1 f.toNat 0),(List.getD c.2.2.1 f.toNat 0)),()))))))
theorem amu (x:bi ju.args) (K:bgr×Unit->Prop):evF tab (lkp []) (aw [(1,15)]) Try.f99 (aj Try.f99) .n ju x K=ti x.1 x.2.1 K:=by kernel_rfl
theorem aoe:okC Try.f99.ntmps (aw [(1,15)]) (aj Try.f99)=true:=by kernel_rfl
theorem anv (c:ac) (f:Int) (hok:ae (okL ju.args (c,f,()))) (hpre:ae (ju.pre (c,f,()))):ti c f (fun r=>r=ju.res (c,f,())):=by
 simp only [ju,okL,T.oks,T.ok,ap,ae,true_and,and_true,implies_true]at hok hpre
 try dsimp only [T.den]at hok
 try dsimp only [T.den]at hpre
 unfold ti
 exact ⟨hpre.1,hpre.2.1,hpre.1,hpre.2.2,rfl⟩
theorem al1:dg Try.prog 99 ju:=
 d7 (Φ:=lkp []) ba bo (by kernel_rfl) (fn:=Try.f99) (c:=aj Try.f99) (by kernel_rfl) (by kernel_rfl) (by kernel_rfl) ju rfl .n (aw [(1,15)]) (by kernel_rfl) (by kernel_rfl) aoe (by decide) (fun x K=>ti x.1 x.2.1 K) amu (fun x h1 h2=>anv x.1 x.2.1 h1 h2)
def jf:Ct:=⟨[(.int .i64),(.int .i64),(.int .i64)],[false,false,false],fun x=>[],[(false,(.fz .bool))],fun x=>(inR x.1 x.2.1 x.2.2.1,()),false,none⟩
def aa8 (n:Int) (low:Int) (high:Int) (K:Bool×Unit->Prop):Prop:=(K (((decide (low<=n)) && (decide (n<=high))),()))
theorem axj (x:bi jf.args) (K:Bool×Unit->Prop):evF tab (lkp []) (aw []) Try.f81 (aj Try.f81) .n jf x K=aa8 x.1 x.2.1 x.2.2.1 K:=by kernel_rfl
theorem axy:okC Try.f81.ntmps (aw []) (aj Try.f81)=true:=by kernel_rfl
theorem awo (n:Int) (low:Int) (high:Int) (hok:ae (okL jf.args (n,low,high,()))) (hpre:ae (jf.pre (n,low,high,()))):aa8 n low high (fun r=>r=jf.res (n,low,high,())):=by
 simp only [jf,okL,T.oks,T.ok,ap,ae,true_and,and_true,implies_true]at hok hpre
 try dsimp only [T.den]at hok
 try dsimp only [T.den]at hpre
 unfold aa8
 grind [cnd,fy,au,jf,inR]
theorem z6:dg Try.prog 81 jf:=
 d7 (Φ:=lkp []) ba bo (by kernel_rfl) (fn:=Try.f81) (c:=aj Try.f81) (by kernel_rfl) (by kernel_rfl) (by kernel_rfl) jf rfl .n (aw []) (by kernel_rfl) (by kernel_rfl) axy (by decide) (fun x K=>aa8 x.1 x.2.1 x.2.2.1 K) axj (fun x h1 h2=>awo x.1 x.2.1 x.2.2.1 h1 h2)
def kn:Ct:=⟨[(.sl (.int .i64)),(.int .i64)],[false,false],fun x=>[inK .i64 (x.2.1 - 1)],[(false,(.fz .bool))],fun x=>(bn x.1 x.2.1,()),false,none⟩
def alv:Ann:=(.s .n (.s (.s .n (.l [(9,(.d (.int .i64)))] [] [1,7,8] .n)) .n))
def acp (list:List Int) (n:Int) (K:Bool×Unit->Prop):Prop:=(bu (S:=brl) (fun s=>(fun next=>((inK .i64 s.1.1)->(cnd (decide (s.1.1 < ((list.length:Nat):Int))) ((0<=s.1.1)/\((s.1.1 < ((list.length:Nat):Int))/\((inK .i64 (n - 1))/\(cnd (!(inR (List.getD list s.1.1.toNat 0) 0 (n - 1))) (K (false,())) ((inK .i64 (s.1.1+1))/\(next (((s.1.1+1),()),()))))))) (K (true,())))))) ((0,()),()))
theorem bab (x:bi kn.args) (K:Bool×Unit->Prop):evF tab (lkp [(81,jf)]) (aw []) Try.f39 (aj Try.f39) alv kn x K=acp x.1 x.2.1 K:=by kernel_rfl
theorem bai:okC Try.f39.ntmps (aw []) (aj Try.f39)=true:=by kernel_rfl
theorem bac (list:List Int) (n:Int) (hok:ae (okL kn.args (list,n,()))) (hpre:ae (kn.pre (list,n,()))):acp list n (fun r=>r=kn.res (list,n,())):=by
 simp only [kn,okL,T.oks,T.ok,ap,ae,true_and,and_true,implies_true]at hok hpre
 try dsimp only [T.den]at hok
 try dsimp only [T.den]at hpre
 unfold acp
 refine ca (fun (s:brl)=>0<=s.1.1/\s.1.1<=list.length/\bn list n=bn (list.drop s.1.1.toNat) n) (fun (s:brl)=>(list.length - s.1.1).toNat) ?_ (by simp)
 rintro ⟨⟨i,_⟩,_⟩ next ⟨h0,h1,h2⟩ hn hin
 simp only at h0 h1 h2 hn ⊢
 refine bf (fun hc=>?_) (fun hc=>?_)
 ·rw [aay list 0 h0 hc]at h2
  simp only [bn,List.all_cons]at h2
  grind [cnd,fy,au,kn,bn]
 ·rw [acf list (by omega)]at h2
  grind [cnd,fy,au,kn,bn]
theorem afc:dg Try.prog 39 kn:=
 d7 (Φ:=lkp [(81,jf)]) (am z6 ba) bo (by kernel_rfl) (fn:=Try.f39) (c:=aj Try.f39) (by kernel_rfl) (by kernel_rfl) (by kernel_rfl) kn rfl alv (aw []) (by kernel_rfl) (by kernel_rfl) bai (by decide) (fun x K=>acp x.1 x.2.1 K) bab (fun x h1 h2=>bac x.1 x.2.1 h1 h2)
def aaa (c:ac) (f g v:Int):Bool:=
 if c.2.2.1.getD f.toNat 0=c.2.1.getD g.toNat 0 then decide (0<=v/\v < c.2.1.length/\c.2.1.getD v.toNat 0=c.2.1.getD f.toNat 0/\c.2.2.1.getD v.toNat 0=c.2.2.1.getD g.toNat 0)
 else decide (v=-1)
def v8 (c:ac) (f g:Int):Bool:=aaa c f g (cq c f g)
structure ShapeP (c:ac):Prop where
 ob:0<=c.1/\c.1<=8
 m:c.2.1.length<=40
 lt:c.2.2.1.length=c.2.1.length
 fr:bn c.2.1 c.1=true
 to:bn c.2.2.1 c.1=true
 li:(c.2.2.2.1.length:Int)=c.1
 ids:bn c.2.2.2.1 c.2.1.length=true
 lc:c.2.2.2.2.length=c.2.1.length
 idt:∀ x:Int,0<=x->x < c.1->c.2.1.getD (c.2.2.2.1.getD x.toNat 0).toNat 0=x/\c.2.2.1.getD (c.2.2.2.1.getD x.toNat 0).toNat 0=x
 row:∀ f:Int,0<=f->f < c.2.1.length->(c.2.2.2.2.getD f.toNat []).length=c.2.1.length
 cell:∀ f g:Int,0<=f->f < c.2.1.length->0<=g->g < c.2.1.length->v8 c f g=true
def ace (c:ac):Bool:=inR c.1 0 8 && decide (c.2.1.length<=40) && decide (c.2.2.1.length=c.2.1.length) && bn c.2.1 c.1 && bn c.2.2.1 c.1 && decide ((c.2.2.2.1.length:Int)=c.1) && bn c.2.2.2.1 c.2.1.length &&
 decide (c.2.2.2.2.length=c.2.1.length) && apc c.1.toNat (fun x=>decide (c.2.1.getD (c.2.2.2.1.getD x.toNat 0).toNat 0=x/\c.2.2.1.getD (c.2.2.2.1.getD x.toNat 0).toNat 0=x)) &&
 apc c.2.1.length (fun f=>decide ((c.2.2.2.2.getD f.toNat []).length=c.2.1.length)) && apc c.2.1.length (fun f=>apc c.2.1.length fun g=>v8 c f g)
theorem adq {c:ac}:ace c=true<->ShapeP c:=by
 simp only [ace,Bool.and_eq_true,decide_eq_true_eq,inR,bdm]
 constructor
 ·rintro ⟨⟨⟨⟨⟨⟨⟨⟨⟨⟨h0,h1⟩,h2⟩,h3⟩,h4⟩,h5⟩,h6⟩,h7⟩,h8⟩,h9⟩,h10⟩
  exact ⟨h0,h1,h2,h3,h4,h5,h6,h7,fun x a b=>h8 x a (by omega),h9,fun f g a b d e=>h10 f a b g d e⟩
 ·intro h
  exact ⟨⟨⟨⟨⟨⟨⟨⟨⟨⟨h.ob,h.m⟩,h.lt⟩,h.fr⟩,h.to⟩,h.li⟩,h.ids⟩,h.lc⟩,fun x a b=>h.idt x a (by have:=h.ob;omega)⟩,h.row⟩,fun f a b g d e=>h.cell f g a b d e⟩
theorem aqj {c:ac} (h:¬ ShapeP c):ace c=false:=by
 cases hs:ace c with
 | false=>rfl
 | true=>exact absurd (adq.1 hs) h
theorem ayr {c:ac} (h:ShapeP c):ace c=true:=adq.2 h
def dq:Ct:=⟨[(.pt bj)],[false],fun x=>[],[(false,(.fz .bool))],fun x=>(ace x.1,()),false,none⟩
def aan:Ann:=(.s .n (.s .n (.s .n (.s .n (.s (.s .n (.l [(88,(.d (.int .i64)))] [] [0,3,86,87] .n)) (.s (.s .n (.l [(106,(.d (.int .i64)))] [] [0,3,104,105] (.s .n (.s .n (.s (.s .n (.s .n (.s .n (.l [(117,(.d (.int .i64)))] [] [0,3,6,104,105,106,115,116] (.s .n (.s .n (.s (.j [] [] [0,3,6,104,105,106,115,116,117] .n) .n))))))) .n))))) .n))))))
def aav:FuncId->Option Ct:=lkp [(40,e9),(99,ju),(81,jf),(39,kn)]
def qi (c:ac) (K:Bool×Unit->Prop):Prop:=((((((!(inR c.1 0 8)) || (decide (40 < ((c.2.1.length:Nat):Int)))) || (((c.2.2.1.length:Nat):Int) != ((c.2.1.length:Nat):Int)))=false)->(inK .i64 (c.1 - 1)))/\(((((((!(inR c.1 0 8)) || (decide (40 < ((c.2.1.length:Nat):Int)))) || (((c.2.2.1.length:Nat):Int) != ((c.2.1.length:Nat):Int))) || (!(bn c.2.1 c.1)))=false)->(inK .i64 (c.1 - 1)))/\(cnd (((((!(inR c.1 0 8)) || (decide (40 < ((c.2.1.length:Nat):Int)))) || (((c.2.2.1.length:Nat):Int) != ((c.2.1.length:Nat):Int))) || (!(bn c.2.1 c.1))) || (!(bn c.2.2.1 c.1))) (K (false,())) ((((((c.2.2.2.1.length:Nat):Int) != c.1)=false)->(inK .i64 (((c.2.1.length:Nat):Int) - 1)))/\(cnd (((((c.2.2.2.1.length:Nat):Int) != c.1) || (!(bn c.2.2.2.1 ((c.2.1.length:Nat):Int)))) || (((c.2.2.2.2.length:Nat):Int) != ((c.2.1.length:Nat):Int))) (K (false,())) (bu (S:=brl) (fun s=>(fun next=>((inK .i64 s.1.1)->(cnd (decide (s.1.1 < ((c.2.2.2.1.length:Nat):Int))) ((0<=s.1.1)/\((s.1.1 < ((c.2.2.2.1.length:Nat):Int))/\((0<=(List.getD c.2.2.2.1 s.1.1.toNat 0))/\(((List.getD c.2.2.2.1 s.1.1.toNat 0) < ((c.2.1.length:Nat):Int))/\(((List.getD c.2.2.2.1 s.1.1.toNat 0) < ((c.2.2.1.length:Nat):Int))/\(cnd (!(((List.getD c.2.1 (Int.toNat (List.getD c.2.2.2.1 s.1.1.toNat 0)) 0) == s.1.1) && ((List.getD c.2.2.1 (Int.toNat (List.getD c.2.2.2.1 s.1.1.toNat 0)) 0) == s.1.1))) (K (false,())) ((inK .i64 (s.1.1+1))/\(next (((s.1.1+1),()),()))))))))) (bu (S:=brl) (fun s1=>(fun next1=>((inK .i64 s1.1.1)->(cnd (decide (s1.1.1 < ((c.2.2.2.2.length:Nat):Int))) ((0<=s1.1.1)/\((s1.1.1 < ((c.2.2.2.2.length:Nat):Int))/\(cnd ((((List.length (List.getD c.2.2.2.2 s1.1.1.toNat [])):Nat):Int) != ((c.2.1.length:Nat):Int)) (K (false,())) (bu (S:=brl) (fun s2=>(fun next2=>((inK .i64 s2.1.1)->(cnd (decide (s2.1.1 < (((List.length (List.getD c.2.2.2.2 s1.1.1.toNat [])):Nat):Int))) (fk (S:=(Unit×Unit)) (fun s3=>((inK .i64 (s2.1.1+1))/\(next2 (((s2.1.1+1),()),())))) (fun k=>((0<=s2.1.1)/\((s2.1.1 < (((List.length (List.getD c.2.2.2.2 s1.1.1.toNat [])):Nat):Int))/\((0<=s1.1.1)/\((s1.1.1 < ((c.2.2.1.length:Nat):Int))/\((0<=s2.1.1)/\((s2.1.1 < ((c.2.1.length:Nat):Int))/\(cnd ((List.getD c.2.2.1 s1.1.1.toNat 0) != (List.getD c.2.1 s2.1.1.toNat 0)) (cnd ((List.getD (List.getD c.2.2.2.2 s1.1.1.toNat []) s2.1.1.toNat 0) != (-1)) (K (false,())) (k ((),()))) ((inK .i64 (((c.2.1.length:Nat):Int) - 1))/\((((!(inR (List.getD (List.getD c.2.2.2.2 s1.1.1.toNat []) s2.1.1.toNat 0) 0 (((c.2.1.length:Nat):Int) - 1)))=false)->(((List.getD (List.getD c.2.2.2.2 s1.1.1.toNat []) s2.1.1.toNat 0) < ((c.2.1.length:Nat):Int))/\(((List.getD (List.getD c.2.2.2.2 s1.1.1.toNat []) s2.1.1.toNat 0) < ((c.2.2.1.length:Nat):Int))/\(0<=(List.getD (List.getD c.2.2.2.2 s1.1.1.toNat []) s2.1.1.toNat 0)))))/\((((!(inR (List.getD (List.getD c.2.2.2.2 s1.1.1.toNat []) s2.1.1.toNat 0) 0 (((c.2.1.length:Nat):Int) - 1)))=false)->((s1.1.1 < ((c.2.1.length:Nat):Int))/\(0<=s1.1.1)))/\((((!(inR (List.getD (List.getD c.2.2.2.2 s1.1.1.toNat []) s2.1.1.toNat 0) 0 (((c.2.1.length:Nat):Int) - 1)))=false)->((s2.1.1 < ((c.2.2.1.length:Nat):Int))/\(0<=s2.1.1)))/\(cnd ((!(inR (List.getD (List.getD c.2.2.2.2 s1.1.1.toNat []) s2.1.1.toNat 0) 0 (((c.2.1.length:Nat):Int) - 1))) || (!(((List.getD c.2.1 (Int.toNat (List.getD (List.getD c.2.2.2.2 s1.1.1.toNat []) s2.1.1.toNat 0)) 0) == (List.getD c.2.1 s1.1.1.toNat 0)) && ((List.getD c.2.2.1 (Int.toNat (List.getD (List.getD c.2.2.2.2 s1.1.1.toNat []) s2.1.1.toNat 0)) 0) == (List.getD c.2.2.1 s2.1.1.toNat 0))))) (K (false,())) (k ((),())))))))))))))))) ((inK .i64 (s1.1.1+1))/\(next1 (((s1.1.1+1),()),()))))))) ((0,()),()))))) (K (true,())))))) ((0,()),())))))) ((0,()),())))))))
theorem ai9 (x:bi dq.args) (K:Bool×Unit->Prop):evF tab aav (aw [(2,43),(20,15),(4,28),(23,26)]) Try.f108 (aj Try.f108) aan dq x K=qi x.1 K:=by kernel_rfl
theorem ajd:okC Try.f108.ntmps (aw [(2,43),(20,15),(4,28),(23,26)]) (aj Try.f108)=true:=by kernel_rfl
theorem ajb (c:ac) (hok:ae (okL dq.args (c,()))) (hpre:ae (dq.pre (c,()))):qi c (fun r=>r=dq.res (c,())):=by
 simp only [dq,okL,T.oks,T.ok,ap,ae,true_and,and_true,implies_true]at hok hpre
 try dsimp only [T.den]at hok
 try dsimp only [T.den]at hpre
 unfold qi
 refine ⟨by grind [cnd,fy,au,inR],by grind [cnd,fy,au,inR],be (fun hc=>?_) (fun hc=>⟨by rw [au];have:=hok.2.1.1;grind [cnd,fy,au],be (fun hd=>?_) (fun hd=>?_)⟩)⟩
 ·simp only [dq];rw [aqj];intro h;have h1:=h.ob;have h2:=h.m;have h3:=h.lt;have h4:=h.fr;have h5:=h.to;simp only [inR]at hc;grind [cnd,fy,au]
 ·simp only [dq];rw [aqj];intro h;have h1:=h.li;have h2:=h.ids;have h3:=h.lc;grind [cnd,fy,au]
 simp only [inR,Bool.or_eq_false_iff,Bool.not_eq_false',Bool.and_eq_true,decide_eq_true_eq,decide_eq_false_iff_not,bne_eq_false_iff_eq]at hc hd
 obtain ⟨⟨⟨⟨hob,hm⟩,hlt⟩,hfr⟩,hto⟩:=hc
 obtain ⟨⟨hli,hids⟩,hlc⟩:=hd
 have bad:¬ ShapeP c->(false,())=dq.res (c,()):=fun h=>by simp only [dq];rw [aqj h]
 refine nh (n:=c.2.2.2.1.length) (fun x=>∀ y:Int,0<=y->y < x->c.2.1.getD (c.2.2.2.1.getD y.toNat 0).toNat 0=y/\c.2.2.1.getD (c.2.2.2.1.getD y.toNat 0).toNat 0=y) (by omega) (by intro y h0 h1;omega) ?_ ?_
 ·intro x next h0 h1 hP hn hin
  have hb:=io.1 hids x h0 h1
  try dsimp only
  refine bf (fun _=>⟨h0,h1,hb.1,hb.2,by omega,be (fun hx=>bad fun h=>?_) (fun hx=>?_)⟩) (fun h=>absurd h1 h)
  ·have:=h.idt x h0 (by omega)
   rw [this.1,this.2]at hx
   simp at hx
  ·simp only [Bool.not_eq_false',Bool.and_eq_true,beq_iff_eq]at hx
   refine ⟨by rw [au];(try dsimp only);omega,hn fun y y0 y1=>?_⟩
   by_cases e:y=x
   ·rw [e];exact hx
   ·exact hP y y0 (by omega)
 intro next hidt hin
 refine bf (fun h=>absurd h (by dsimp only;omega)) (fun _=>?_)
 refine nh (n:=c.2.2.2.2.length) (fun f=>∀ f':Int,0<=f'->f' < f->(c.2.2.2.2.getD f'.toNat []).length=c.2.1.length/\∀ g:Int,0<=g->g < c.2.1.length->v8 c f' g=true) (by omega) (by intro y h0 h1;omega) ?_ ?_
 ·intro f next h0 h1 hP hn hin
  try dsimp only
  refine bf (fun _=>⟨h0,h1,be (fun hx=>bad fun h=>?_) (fun hx=>?_)⟩) (fun h=>absurd h1 h)
  ·have:=h.row f h0 (by omega)
   rw [this]at hx
   simp at hx
  simp only [bne_eq_false_iff_eq]at hx
  refine nh (n:=(c.2.2.2.2.getD f.toNat []).length) (fun g=>∀ g':Int,0<=g'->g' < g->v8 c f g'=true) (by omega) (by intro y h0 h1;omega) ?_ ?_
  ·intro g next3 g0 g1 hP3 hn3 hin3
   try dsimp only
   refine bf (fun _=>?_) (fun h=>absurd g1 h)
   refine dn (fun _=>v8 c f g=true) (fun _ hcell=>⟨by rw [au];(try dsimp only);omega,hn3 fun g' y0 y1=>?_⟩) (fun k hk=>?_)
   ·by_cases e:g'=g
    ·rw [e];exact hcell
    ·exact hP3 g' y0 (by omega)
   have hcell:∀ b,v8 c f g=b->b=false->¬ ShapeP c:=fun b h1 h2 h=>by
    have:=h.cell f g h0 (by omega) g0 (by omega)
    rw [h1,h2]at this;cases this
   have hk':=hk ((),())
   obtain ⟨v,hv⟩:∃ v,(c.2.2.2.2.getD f.toNat []).getD g.toNat 0=v:=⟨_,rfl⟩
   have hR:v8 c f g=aaa c f g v:=by unfold v8 cq;rw [hv]
   rw [hR]at hk'
   rw [hR]at hcell
   rw [hv]
   clear hP3 hn3 hP hn hk hR hv hidt hok
   refine ⟨g0,g1,h0,by omega,g0,by omega,be (fun ha=>be (fun hb=>bad ?_) (fun hb=>hk' ?_)) (fun ha=>⟨by rw [au];(try dsimp only);omega,fun hv=>?_,fun _=>⟨by omega,h0⟩,fun _=>⟨by omega,g0⟩,be (fun hb=>bad ?_) (fun hb=>hk' ?_)⟩)⟩
   ·exact hcell _ rfl (by grind [cnd,fy,au,aaa])
   ·grind [cnd,fy,au,aaa]
   ·simp only [inR,Bool.not_eq_false',Bool.and_eq_true,decide_eq_true_eq]at hv;omega
   ·exact hcell _ rfl (by simp only [inR]at hb;grind [cnd,fy,au,aaa])
   ·simp only [inR]at hb;grind [cnd,fy,au,aaa]
  ·intro next3 hP3 hin3
   refine bf (fun h=>absurd h (by dsimp only;omega)) (fun _=>⟨by rw [au];(try dsimp only);omega,hn fun f' y0 y1=>?_⟩)
   by_cases e:f'=f
   ·rw [e];exact ⟨by omega,fun g g0 g1=>hP3 g g0 (by omega)⟩
   ·exact hP f' y0 (by omega)
 ·intro next2 hP2 hin2
  refine bf (fun h=>absurd h (by dsimp only;omega)) (fun _=>?_)
  simp only [dq]
  rw [ayr ⟨hob,by omega,by omega,hfr,hto,by omega,hids,by omega,fun x a b=>hidt x a (by omega),fun f a b=>(hP2 f a (by omega)).1,fun f g a b d e=>(hP2 f a (by omega)).2 g d e⟩]
theorem ai2:dg Try.prog 108 dq:=
 d7 (Φ:=aav) (am nv (am al1 (am z6 (am afc ba)))) bo (by kernel_rfl) (fn:=Try.f108) (c:=aj Try.f108) (by kernel_rfl) (by kernel_rfl) (by kernel_rfl) dq rfl aan (aw [(2,43),(20,15),(4,28),(23,26)]) (by kernel_rfl) (by kernel_rfl) ajd (by decide) (fun x K=>qi x.1 K) ai9 (fun x h1 h2=>ajb x.1 h1 h2)
theorem ShapeP.frm {c:ac} (h:ShapeP c) {f:Int} (h0:0<=f) (h1:f < c.2.1.length):0<=c.2.1.getD f.toNat 0/\c.2.1.getD f.toNat 0 < c.1/\0<=c.2.2.1.getD f.toNat 0/\c.2.2.1.getD f.toNat 0 < c.1:=by
 have a:=io.1 h.fr f h0 h1
 have b:=io.1 h.to f h0 (by have:=h.lt;omega)
 exact ⟨a.1,a.2,b.1,b.2⟩
theorem ShapeP.idn {c:ac} (h:ShapeP c) {x:Int} (h0:0<=x) (h1:x < c.1):0<=c.2.2.2.1.getD x.toNat 0/\c.2.2.2.1.getD x.toNat 0 < c.2.1.length/\c.2.1.getD (c.2.2.2.1.getD x.toNat 0).toNat 0=x/\c.2.2.1.getD (c.2.2.2.1.getD x.toNat 0).toNat 0=x:=by
 have a:=io.1 h.ids x h0 (by have:=h.li;omega)
 have b:=h.idt x h0 h1
 exact ⟨a.1,a.2,b.1,b.2⟩
theorem ShapeP.yes {c:ac} (h:ShapeP c) {f g:Int} (h0:0<=f) (h1:f < c.2.1.length) (g0:0<=g) (g1:g < c.2.1.length) (e:c.2.2.1.getD f.toNat 0=c.2.1.getD g.toNat 0) :
  0<=cq c f g/\cq c f g < c.2.1.length/\c.2.1.getD (cq c f g).toNat 0=c.2.1.getD f.toNat 0/\c.2.2.1.getD (cq c f g).toNat 0=c.2.2.1.getD g.toNat 0:=by
 have:=h.cell f g h0 h1 g0 g1
 unfold v8 aaa at this
 rw [if_pos e]at this
 simpa using this
theorem ShapeP.no {c:ac} (h:ShapeP c) {f g:Int} (h0:0<=f) (h1:f < c.2.1.length) (g0:0<=g) (g1:g < c.2.1.length) (e:c.2.2.1.getD f.toNat 0 ≠ c.2.1.getD g.toNat 0):cq c f g=-1:=by
 have:=h.cell f g h0 h1 g0 g1
 unfold v8 aaa at this
 rw [if_neg e]at this
 simpa using this
theorem ShapeP.comp {c:ac} (h:ShapeP c) {f g:Int} (h0:0<=f) (h1:f < c.2.1.length) (g0:0<=g) (g1:g < c.2.1.length):0<=cq c f g<->c.2.2.1.getD f.toNat 0=c.2.1.getD g.toNat 0:=by
 constructor
 ·intro h2
  by_cases e:c.2.2.1.getD f.toNat 0=c.2.1.getD g.toNat 0
  ·exact e
  ·have:=h.no h0 h1 g0 g1 e;omega
 ·intro e;exact (h.yes h0 h1 g0 g1 e).1
def pk (c:ac) (f:Int):Option (Int×Int×Int×Int):=
 if cq c (c.2.2.2.1.getD (c.2.1.getD f.toNat 0).toNat 0) f ≠ f\/cq c f (c.2.2.2.1.getD (c.2.2.1.getD f.toNat 0).toNat 0) ≠ f then some (1,f,0,0)else none
def v7 (c:ac) (f g h:Int):Option (Int×Int×Int×Int):=
 if c.2.2.1.getD g.toNat 0=c.2.1.getD h.toNat 0/\cq c (cq c f g) h ≠ cq c f (cq c g h)then some (2,f,g,h)else none
def s8 (c:ac) (f g:Int):Option (Int×Int×Int×Int):=
 if c.2.2.1.getD f.toNat 0=c.2.1.getD g.toNat 0 then jv (v7 c f g) c.2.1.length 0 else none
def sy (c:ac) (f:Int):Option (Int×Int×Int×Int):=jv (s8 c f) c.2.1.length 0
def ny (c:ac):Int×Int×Int×Int:=
 orR (jv (pk c) c.2.1.length 0) (orR (jv (sy c) c.2.1.length 0) (0,0,0,0))
def gu:Ct:=⟨[(.pt bj)],[false],fun x=>[ShapeP x.1],[(false,(.fz (.int .i64))),(false,(.fz (.int .i64))),(false,(.fz (.int .i64))),(false,(.fz (.int .i64)))],fun x=>((ny x.1).1,(ny x.1).2.1,(ny x.1).2.2.1,(ny x.1).2.2.2,()),false,none⟩
def acj:Ann:=(.s .n (.s .n (.s (.s .n (.l [(7,(.d (.int .i64)))] [] [0,6] .n)) (.s (.s .n (.l [(8,(.d (.int .i64)))] [] [0,6] (.s .n (.s (.s .n (.l [(9,(.d (.int .i64)))] [] [0,6,8] (.s .n (.s (.j [] [] [0,6,8,9] (.s .n (.s .n (.l [(10,(.d (.int .i64)))] [] [0,6,8,9] .n)))) .n)))) .n)))) .n))))
def acd:FuncId->Option Ct:=lkp [(40,e9),(67,g9)]
def sc (c:ac) (K:Int×Int×Int×Int×Unit->Prop):Prop:=(bu (S:=brl) (fun s=>(fun next=>((inK .i64 s.1.1)->(cnd (decide (s.1.1 < ((c.2.1.length:Nat):Int))) ((0<=s.1.1)/\((s.1.1 < ((c.2.1.length:Nat):Int))/\((0<=(List.getD c.2.1 s.1.1.toNat 0))/\(((List.getD c.2.1 s.1.1.toNat 0) < ((c.2.2.2.1.length:Nat):Int))/\((0<=(List.getD c.2.2.2.1 (Int.toNat (List.getD c.2.1 s.1.1.toNat 0)) 0))/\(((List.getD c.2.2.2.1 (Int.toNat (List.getD c.2.1 s.1.1.toNat 0)) 0) < ((c.2.2.2.2.length:Nat):Int))/\((0<=s.1.1)/\((s.1.1 < (((List.length (List.getD c.2.2.2.2 (Int.toNat (List.getD c.2.2.2.1 (Int.toNat (List.getD c.2.1 s.1.1.toNat 0)) 0)) [])):Nat):Int))/\(((((cq c (List.getD c.2.2.2.1 (Int.toNat (List.getD c.2.1 s.1.1.toNat 0)) 0) s.1.1) != s.1.1)=false)->((s.1.1 < ((c.2.2.1.length:Nat):Int))/\(0<=s.1.1)))/\(((((cq c (List.getD c.2.2.2.1 (Int.toNat (List.getD c.2.1 s.1.1.toNat 0)) 0) s.1.1) != s.1.1)=false)->(((List.getD c.2.2.1 s.1.1.toNat 0) < ((c.2.2.2.1.length:Nat):Int))/\(0<=(List.getD c.2.2.1 s.1.1.toNat 0))))/\(((((cq c (List.getD c.2.2.2.1 (Int.toNat (List.getD c.2.1 s.1.1.toNat 0)) 0) s.1.1) != s.1.1)=false)->((s.1.1 < ((c.2.2.2.2.length:Nat):Int))/\((0<=(List.getD c.2.2.2.1 (Int.toNat (List.getD c.2.2.1 s.1.1.toNat 0)) 0))/\(((List.getD c.2.2.2.1 (Int.toNat (List.getD c.2.2.1 s.1.1.toNat 0)) 0) < (((List.length (List.getD c.2.2.2.2 s.1.1.toNat [])):Nat):Int))/\(0<=s.1.1)))))/\(cnd (((cq c (List.getD c.2.2.2.1 (Int.toNat (List.getD c.2.1 s.1.1.toNat 0)) 0) s.1.1) != s.1.1) || ((cq c s.1.1 (List.getD c.2.2.2.1 (Int.toNat (List.getD c.2.2.1 s.1.1.toNat 0)) 0)) != s.1.1)) (K (1,(s.1.1,(0,(0,()))))) ((inK .i64 (s.1.1+1))/\(next (((s.1.1+1),()),()))))))))))))))) (bu (S:=brl) (fun s1=>(fun next1=>((inK .i64 s1.1.1)->(cnd (decide (s1.1.1 < ((c.2.1.length:Nat):Int))) (bu (S:=brl) (fun s2=>(fun next2=>((inK .i64 s2.1.1)->(cnd (decide (s2.1.1 < ((c.2.1.length:Nat):Int))) (fk (S:=(Unit×Unit)) (fun s3=>((inK .i64 (s2.1.1+1))/\(next2 (((s2.1.1+1),()),())))) (fun k=>((0<=s1.1.1)/\((s1.1.1 < ((c.2.2.2.2.length:Nat):Int))/\((0<=s2.1.1)/\((s2.1.1 < (((List.length (List.getD c.2.2.2.2 s1.1.1.toNat [])):Nat):Int))/\(cnd (decide ((cq c s1.1.1 s2.1.1) < 0)) (k ((),())) (bu (S:=brl) (fun s3=>(fun next3=>((inK .i64 s3.1.1)->(cnd (decide (s3.1.1 < ((c.2.1.length:Nat):Int))) ((0<=s2.1.1)/\((s2.1.1 < ((c.2.2.2.2.length:Nat):Int))/\((0<=s3.1.1)/\((s3.1.1 < (((List.length (List.getD c.2.2.2.2 s2.1.1.toNat [])):Nat):Int))/\((((decide (0<=(cq c s2.1.1 s3.1.1)))=true)->((s1.1.1 < ((c.2.2.2.2.length:Nat):Int))/\((0<=s2.1.1)/\((s2.1.1 < (((List.length (List.getD c.2.2.2.2 s1.1.1.toNat [])):Nat):Int))/\(0<=s1.1.1)))))/\((((decide (0<=(cq c s2.1.1 s3.1.1)))=true)->(((cq c s1.1.1 s2.1.1) < ((c.2.2.2.2.length:Nat):Int))/\((0<=s3.1.1)/\((s3.1.1 < (((List.length (List.getD c.2.2.2.2 (Int.toNat (cq c s1.1.1 s2.1.1)) [])):Nat):Int))/\(0<=(cq c s1.1.1 s2.1.1))))))/\((((decide (0<=(cq c s2.1.1 s3.1.1)))=true)->((s2.1.1 < ((c.2.2.2.2.length:Nat):Int))/\((0<=s3.1.1)/\((s3.1.1 < (((List.length (List.getD c.2.2.2.2 s2.1.1.toNat [])):Nat):Int))/\(0<=s2.1.1)))))/\((((decide (0<=(cq c s2.1.1 s3.1.1)))=true)->((s1.1.1 < ((c.2.2.2.2.length:Nat):Int))/\((0<=(cq c s2.1.1 s3.1.1))/\(((cq c s2.1.1 s3.1.1) < (((List.length (List.getD c.2.2.2.2 s1.1.1.toNat [])):Nat):Int))/\(0<=s1.1.1)))))/\(cnd ((decide (0<=(cq c s2.1.1 s3.1.1))) && ((cq c (cq c s1.1.1 s2.1.1) s3.1.1) != (cq c s1.1.1 (cq c s2.1.1 s3.1.1)))) (K (2,(s1.1.1,(s2.1.1,(s3.1.1,()))))) ((inK .i64 (s3.1.1+1))/\(next3 (((s3.1.1+1),()),())))))))))))) (k ((),())))))) ((0,()),()))))))))) ((inK .i64 (s1.1.1+1))/\(next1 (((s1.1.1+1),()),()))))))) ((0,()),())) (K (0,(0,(0,(0,()))))))))) ((0,()),())))))) ((0,()),()))
theorem al8 (x:bi gu.args) (K:Int×Int×Int×Int×Unit->Prop):evF tab acd (aw [(5,38)]) Try.f109 (aj Try.f109) acj gu x K=sc x.1 K:=by kernel_rfl
theorem al7:okC Try.f109.ntmps (aw [(5,38)]) (aj Try.f109)=true:=by kernel_rfl
theorem al0 (c:ac) (hok:ae (okL gu.args (c,()))) (hpre:ae (gu.pre (c,()))):sc c (fun r=>r=gu.res (c,())):=by
 simp only [gu,okL,T.oks,T.ok,ap,ae,true_and,and_true,implies_true]at hok hpre
 try dsimp only [T.den]at hok
 try dsimp only [T.den]at hpre
 unfold sc
 have S:ShapeP c:=hpre
 have hlt:=S.lt
 have hli:=S.li
 have hlc:=S.lc
 have hmm:=S.m
 have resq:∀ a b d e,ny c=(a,b,d,e)->(a,b,d,e,())=gu.res (c,()):=fun a b d e h=>by simp only [gu,h]
 refine nh (n:=c.2.1.length) (fun f=>jv (pk c) c.2.1.length 0=jv (pk c) ((c.2.1.length:Int) - f).toNat f) (by omega) afw ?_ ?_
 ·intro f next h0 h1 hP hn hin
  try dsimp only
  obtain ⟨a1,a2,a3,a4⟩:=S.frm h0 h1
  obtain ⟨b1,b2,_,_⟩:=S.idn a1 a2
  obtain ⟨d1,d2,_,_⟩:=S.idn a3 a4
  have r1:=S.row _ b1 b2
  have r2:=S.row f h0 h1
  refine bf (fun _=>⟨h0,h1,by omega,by omega,by omega,by omega,h0,by omega,fun _=>by omega,fun _=>by omega,fun _=>by omega,be (fun hx=>resq _ _ _ _ ?_) (fun hx=>⟨by rw [au];(try dsimp only);omega,hn ?_⟩)⟩) (fun h=>absurd h1 h)
  ·have:pk c f=some (1,f,0,0):=by unfold pk;rw [if_pos];simpa using hx
   unfold ny;rw [hP,aft h1 this];rfl
  ·have:pk c f=none:=by unfold pk;rw [if_neg];simpa using hx
   rw [hP,agk h1 this]
 intro next hI hin
 rw [agf]at hI
 refine bf (fun h=>absurd h (by dsimp only;omega)) (fun _=>?_)
 have hF:ny c=orR (jv (sy c) c.2.1.length 0) (0,0,0,0):=by unfold ny;rw [hI];rfl
 refine nh (n:=c.2.1.length) (fun f=>jv (sy c) c.2.1.length 0=jv (sy c) ((c.2.1.length:Int) - f).toNat f) (by omega) afw ?_ ?_
 ·intro f next h0 h1 hP hn hin
  try dsimp only
  refine bf (fun _=>?_) (fun h=>absurd h1 h)
  have r1:=S.row f h0 h1
  refine nh (n:=c.2.1.length) (fun g=>sy c f=jv (s8 c f) ((c.2.1.length:Int) - g).toNat g) (by omega) afw ?_ ?_
  ·intro g next3 g0 g1 hP3 hn3 hin3
   try dsimp only
   refine bf (fun _=>?_) (fun h=>absurd g1 h)
   have r2:=S.row g g0 g1
   refine dn (fun _=>s8 c f g=none) (fun _ hG=>⟨by rw [au];(try dsimp only);omega,hn3 (by rw [hP3,agk g1 hG])⟩) (fun k hk=>?_)
   have hk':=hk ((),())
   refine ⟨by omega,by omega,by omega,by omega,bf (fun hx=>hk' ?_) (fun hx=>?_)⟩
   ·unfold s8;rw [if_neg];intro e;have:=(S.comp h0 h1 g0 g1).2 e;omega
   have hfg:=(S.comp h0 h1 g0 g1).1 (by omega)
   obtain ⟨y1,y2,_,_⟩:=S.yes h0 h1 g0 g1 hfg
   refine nh (n:=c.2.1.length) (fun h=>s8 c f g=jv (v7 c f g) ((c.2.1.length:Int) - h).toNat h) (by omega) (by unfold s8;rw [if_pos hfg];exact afw) ?_ ?_
   ·intro h next4 i0 i1 hP4 hn4 hin4
    try dsimp only
    refine bf (fun _=>?_) (fun h=>absurd i1 h)
    have r3:=S.row _ y1 y2
    have cgh:=S.comp g0 g1 i0 i1
    have ygh:=@ShapeP.yes c S g h g0 g1 i0 i1
    refine ⟨by omega,by omega,by omega,by omega,fun _=>by omega,fun _=>by omega,fun _=>by omega,fun he=>?_,be (fun hx=>resq _ _ _ _ ?_) (fun hx=>⟨by rw [au];(try dsimp only);omega,hn4 ?_⟩)⟩
    ·have:=ygh (cgh.1 (by simpa using he));omega
    ·have:v7 c f g h=some (2,f,g,h):=by unfold v7;rw [if_pos];rw [← cgh];simpa using hx
     have e1:s8 c f g=some (2,f,g,h):=by rw [hP4,aft i1 this]
     have e2:sy c f=some (2,f,g,h):=by rw [hP3,aft g1 e1]
     rw [hF,hP,aft h1 e2];rfl
    ·have:v7 c f g h=none:=by unfold v7;rw [if_neg];rw [← cgh];simpa using hx
     rw [hP4,agk i1 this]
   ·intro next4 hP4 hin4
    rw [agf]at hP4
    exact bf (fun h=>absurd h (by dsimp only;omega)) (fun _=>hk' hP4)
  ·intro next3 hP3 hin3
   rw [agf]at hP3
   exact bf (fun h=>absurd h (by dsimp only;omega)) (fun _=>⟨by rw [au];(try dsimp only);omega,hn (by rw [hP,agk h1 hP3])⟩)
 ·intro next2 hP2 hin2
  rw [agf]at hP2
  refine bf (fun h=>absurd h (by dsimp only;omega)) (fun _=>resq _ _ _ _ ?_)
  rw [hF,hP2];rfl
theorem akn:dg Try.prog 109 gu:=
 d7 (Φ:=acd) (am nv (am x8 ba)) bo (by kernel_rfl) (fn:=Try.f109) (c:=aj Try.f109) (by kernel_rfl) (by kernel_rfl) (by kernel_rfl) gu rfl acj (aw [(5,38)]) (by kernel_rfl) (by kernel_rfl) al7 (by decide) (fun x K=>sc x.1 K) al8 (fun x h1 h2=>al0 x.1 h1 h2)
def m6 (c:ac):Bool:=ace c && (ny c).1 == 0
def db:Ct:=⟨[(.pt bj)],[false],fun x=>[],[(false,(.fz .bool))],fun x=>(m6 x.1,()),false,none⟩
def yf:FuncId->Option Ct:=lkp [(109,gu),(108,dq)]
def o9 (c:ac) (K:Bool×Unit->Prop):Prop:=(cnd (!(ace c)) (K (false,())) ((ShapeP c)/\(K (((ny c).1 == 0),()))))
theorem agu (x:bi db.args) (K:Bool×Unit->Prop):evF tab yf (aw []) Try.f48 (aj Try.f48) .n db x K=o9 x.1 K:=by kernel_rfl
theorem agn:okC Try.f48.ntmps (aw []) (aj Try.f48)=true:=by kernel_rfl
theorem agv (c:ac) (hok:ae (okL db.args (c,()))) (hpre:ae (db.pre (c,()))):o9 c (fun r=>r=db.res (c,())):=by
 simp only [db,okL,T.oks,T.ok,ap,ae,true_and,and_true,implies_true]at hok hpre
 try dsimp only [T.den]at hok
 try dsimp only [T.den]at hpre
 unfold o9
 simp only [db,m6]
 have:=@adq c
 grind [cnd,fy,au]
theorem rz:dg Try.prog 48 db:=
 d7 (Φ:=yf) (am akn (am ai2 ba)) bo (by kernel_rfl) (fn:=Try.f48) (c:=aj Try.f48) (by kernel_rfl) (by kernel_rfl) (by kernel_rfl) db rfl .n (aw []) (by kernel_rfl) (by kernel_rfl) agn (by decide) (fun x K=>o9 x.1 K) agu (fun x h1 h2=>agv x.1 h1 h2)
theorem akd {c:ac} (h:m6 c=true):ShapeP c:=by
 simp only [m6,Bool.and_eq_true]at h;exact adq.1 h.1
theorem agc {α:Type} {p:Int->Option α}:∀ {n:Nat} {i:Int},jv p n i=none->∀ j:Int,i<=j->j < i+n->p j=none
 | 0,i,_,j,h0,h1=>by omega
 | n+1,i,h,j,h0,h1=>by
  unfold jv at h
  cases hp:p i with
  | some v=>rw [hp]at h;cases h
  | none=>
   rw [hp]at h
   by_cases e:j=i
   ·rw [e,hp]
   ·exact agc (n:=n) (i:=i+1) h j (by omega) (by omega)
theorem adi {α:Type} {p:Int->Option α} {v:α}:∀ {n:Nat} {i:Int},jv p n i=some v->∃ j:Int,p j=some v
 | 0,i,h=>by cases h
 | n+1,i,h=>by
  unfold jv at h
  cases hp:p i with
  | some w=>rw [hp]at h;exact ⟨i,hp.trans h⟩
  | none=>rw [hp]at h;exact adi (n:=n) (i:=i+1) h
theorem bii {c:ac} (hc:m6 c=true) {f g h:Int} (f0:0<=f) (f1:f < c.2.1.length) (g0:0<=g) (g1:g < c.2.1.length) (h0:0<=h) (h1:h < c.2.1.length)
  (hfg:c.2.2.1.getD f.toNat 0=c.2.1.getD g.toNat 0) (hgh:c.2.2.1.getD g.toNat 0=c.2.1.getD h.toNat 0):cq c (cq c f g) h=cq c f (cq c g h):=by
 simp only [m6,Bool.and_eq_true,beq_iff_eq]at hc
 have h2:=hc.2
 unfold ny at h2
 cases h3:jv (pk c) c.2.1.length 0 with
 | some v=>
  obtain ⟨j,hj⟩:=adi h3
  unfold pk at hj
  split at hj
  ·cases hj;rw [h3]at h2;simp [orR]at h2
  ·cases hj
 | none=>
  rw [h3]at h2
  cases h4:jv (sy c) c.2.1.length 0 with
  | some v=>
   obtain ⟨j,hj⟩:=adi h4
   unfold sy at hj
   obtain ⟨k,hk⟩:=adi hj
   unfold s8 at hk
   split at hk
   ·obtain ⟨l,hl⟩:=adi hk
    unfold v7 at hl
    split at hl
    ·cases hl;rw [h4]at h2;simp [orR]at h2
    ·cases hl
   ·cases hk
  | none=>
   have a1:=agc h4 f f0 (by omega)
   unfold sy at a1
   have a2:=agc a1 g g0 (by omega)
   unfold s8 at a2
   rw [if_pos hfg]at a2
   have a3:=agc a2 h h0 (by omega)
   unfold v7 at a3
   split at a3
   ·cases a3
   ·rename_i hn
    exact Decidable.byContradiction fun hne=>hn ⟨hgh,hne⟩
def g7 (c:ac) (l:List Int):Int:=if m6 c=true then (if bn l c.2.1.length=true then 0 else 2)else 1
def j8:Ct:=⟨[(.pt bj),(.sl (.int .i64))],[false,false],fun x=>[],[(false,(.fz (.int .i64)))],fun x=>(g7 x.1 x.2.1,()),false,none⟩
def aha:FuncId->Option Ct:=lkp [(40,e9),(48,db),(39,kn)]
def ze (c:ac) (list:List Int) (K:Int×Unit->Prop):Prop:=(cnd (!(m6 c)) (K (1,())) ((inK .i64 (((c.2.1.length:Nat):Int) - 1))/\(cnd (!(bn list ((c.2.1.length:Nat):Int))) (K (2,())) (K (0,())))))
theorem arw (x:bi j8.args) (K:Int×Unit->Prop):evF tab aha (aw []) Try.f80 (aj Try.f80) .n j8 x K=ze x.1 x.2.1 K:=by kernel_rfl
theorem ar8:okC Try.f80.ntmps (aw []) (aj Try.f80)=true:=by kernel_rfl
theorem ar3 (c:ac) (list:List Int) (hok:ae (okL j8.args (c,list,()))) (hpre:ae (j8.pre (c,list,()))):ze c list (fun r=>r=j8.res (c,list,())):=by
 simp only [j8,okL,T.oks,T.ok,ap,ae,true_and,and_true,implies_true]at hok hpre
 try dsimp only [T.den]at hok
 try dsimp only [T.den]at hpre
 unfold ze
 simp only [j8,g7]
 have h1:=fun h=>(akd (c:=c) h).m
 grind [cnd,fy,au]
theorem ag3:dg Try.prog 80 j8:=
 d7 (Φ:=aha) (am nv (am rz (am afc ba))) bo (by kernel_rfl) (fn:=Try.f80) (c:=aj Try.f80) (by kernel_rfl) (by kernel_rfl) (by kernel_rfl) j8 rfl .n (aw []) (by kernel_rfl) (by kernel_rfl) ar8 (by decide) (fun x K=>ze x.1 x.2.1 K) arw (fun x h1 h2=>ar3 x.1 x.2.1 h1 h2)
def aho (c:ac) (f g:Int):Int×Int:=if g7 c [f,g]=0 then (if cq c f g < 0 then (0,5)else (cq c f g,0))else (0,g7 c [f,g])
theorem aps {c:ac} {l:List Int} (h:g7 c l=0):ShapeP c/\bn l c.2.1.length=true:=by
 unfold g7 at h
 split at h
 ·rename_i hc
  split at h
  ·rename_i hw;exact ⟨akd hc,hw⟩
  ·omega
 ·omega
def ii:Ct:=⟨[bj,(.int .i64),(.int .i64)],[true,false,false],fun x=>[],[(false,(.fz (.int .i64))),(false,(.fz (.int .i64)))],fun x=>((aho x.1 x.2.1 x.2.2.1).1,(aho x.1 x.2.1 x.2.2.1).2,()),false,none⟩
def aek:FuncId->Option Ct:=lkp [(67,g9),(80,j8)]
def vo (c:ac) (f:Int) (g:Int) (K:Int×Int×Unit->Prop):Prop:=(cnd ((g7 c (f::(g::[]))) != 0) (K (0,((g7 c (f::(g::[]))),()))) ((0<=f)/\((f < ((c.2.2.2.2.length:Nat):Int))/\((0<=g)/\((g < (((List.length (List.getD c.2.2.2.2 f.toNat [])):Nat):Int))/\(cnd (decide ((cq c f g) < 0)) (K (0,(5,()))) (K ((cq c f g),(0,())))))))))
theorem apa (x:bi ii.args) (K:Int×Int×Unit->Prop):evF tab aek (aw []) Try.f30 (aj Try.f30) .n ii x K=vo x.1 x.2.1 x.2.2.1 K:=by kernel_rfl
theorem ap1:okC Try.f30.ntmps (aw []) (aj Try.f30)=true:=by kernel_rfl
theorem aox (c:ac) (f:Int) (g:Int) (hok:ae (okL ii.args (c,f,g,()))) (hpre:ae (ii.pre (c,f,g,()))):vo c f g (fun r=>r=ii.res (c,f,g,())):=by
 simp only [ii,okL,T.oks,T.ok,ap,ae,true_and,and_true,implies_true]at hok hpre
 try dsimp only [T.den]at hok
 try dsimp only [T.den]at hpre
 unfold vo
 refine be (fun hx=>?_) (fun hx=>?_)
 ·have h:¬ g7 c [f,g]=0:=by simpa using hx
  simp only [ii,aho];rw [if_neg h]
 have h:g7 c [f,g]=0:=by simpa using hx
 obtain ⟨S,hw⟩:=aps h
 simp only [bn,List.all_cons,List.all_nil,inR,Bool.and_true,Bool.and_eq_true,decide_eq_true_eq]at hw
 have hlc:=S.lc
 have hr:=S.row f hw.1.1 (by omega)
 refine ⟨hw.1.1,by omega,hw.2.1,by omega,bf (fun hc=>?_) (fun hc=>?_)⟩
 ·simp only [ii,aho];rw [if_pos h,if_pos hc]
 ·simp only [ii,aho];rw [if_pos h,if_neg hc]
theorem aop:dg Try.prog 30 ii:=
 d7 (Φ:=aek) (am x8 (am ag3 ba)) bo (by kernel_rfl) (fn:=Try.f30) (c:=aj Try.f30) (by kernel_rfl) (by kernel_rfl) (by kernel_rfl) ii rfl .n (aw []) (by kernel_rfl) (by kernel_rfl) ap1 (by decide) (fun x K=>vo x.1 x.2.1 x.2.2.1 K) apa (fun x h1 h2=>aox x.1 x.2.1 x.2.2.1 h1 h2)
def idR (c:ac) (f:Int):Bool:=c.2.2.2.1.getD (c.2.1.getD f.toNat 0).toNat 0 == f
def gg:Ct:=⟨[(.pt bj),(.int .i64)],[false,false],fun x=>[ShapeP x.1,0<=x.2.1,x.2.1 < x.1.2.1.length],[(false,(.fz .bool))],fun x=>(idR x.1 x.2.1,()),false,none⟩
def o7 (c:ac) (f:Int) (K:Bool×Unit->Prop):Prop:=((0<=f)/\((f < ((c.2.1.length:Nat):Int))/\((0<=(List.getD c.2.1 f.toNat 0))/\(((List.getD c.2.1 f.toNat 0) < ((c.2.2.2.1.length:Nat):Int))/\(K (((List.getD c.2.2.2.1 (Int.toNat (List.getD c.2.1 f.toNat 0)) 0) == f),()))))))
theorem agw (x:bi gg.args) (K:Bool×Unit->Prop):evF tab (lkp []) (aw [(1,16)]) Try.f68 (aj Try.f68) .n gg x K=o7 x.1 x.2.1 K:=by kernel_rfl
theorem agq:okC Try.f68.ntmps (aw [(1,16)]) (aj Try.f68)=true:=by kernel_rfl
theorem agz (c:ac) (f:Int) (hok:ae (okL gg.args (c,f,()))) (hpre:ae (gg.pre (c,f,()))):o7 c f (fun r=>r=gg.res (c,f,())):=by
 simp only [gg,okL,T.oks,T.ok,ap,ae,true_and,and_true,implies_true]at hok hpre
 try dsimp only [T.den]at hok
 try dsimp only [T.den]at hpre
 unfold o7
 have S:ShapeP c:=hpre.1
 have a:=S.frm hpre.2.1 hpre.2.2
 have:=S.li
 exact ⟨hpre.2.1,hpre.2.2,a.1,by omega,rfl⟩
theorem age:dg Try.prog 68 gg:=
 d7 (Φ:=lkp []) ba bo (by kernel_rfl) (fn:=Try.f68) (c:=aj Try.f68) (by kernel_rfl) (by kernel_rfl) (by kernel_rfl) gg rfl .n (aw [(1,16)]) (by kernel_rfl) (by kernel_rfl) agq (by decide) (fun x K=>o7 x.1 x.2.1 K) agw (fun x h1 h2=>agz x.1 x.2.1 h1 h2)
def m9:Ct:=⟨[(.sl .bool)],[false],fun x=>[x.1.length<=1099511627776],[(false,(.sl (.fz (.int .i64))))],fun x=>(qh x.1.length (fun i=>x.1.getD i.toNat false),()),false,none⟩
def ak6:Ann:=(.s .n (.s .n (.s (.s .n (.l [(3,(.ref 800003 [])),(9,(.d (.int .i64)))] [(800003,(.sl (.fz (.int .i64))))] [7,8] (.s .n (.s .n (.s (.s .n (.s .n (.j [(3,(.ref 800003 []))] [(800003,(.sl (.fz (.int .i64))))] [7,8,9] .n))) .n))))) .n)))
def ack (there:List Bool) (K:(List Int)×Unit->Prop):Prop:=(bu (S:=(brh×brg)) (fun s=>(fun next=>((inK .i64 s.1.2.1)->((T.ok (.sl (.int .i64)) s.2.1)->(cnd (decide (s.1.2.1 < ((there.length:Nat):Int))) ((0<=s.1.2.1)/\((s.1.2.1 < ((there.length:Nat):Int))/\(fk (S:=((Unit×Unit)×brg)) (fun s1=>((T.ok (.sl (.int .i64)) s1.2.1)->((inK .i64 (s.1.2.1+1))/\(next (((),((s.1.2.1+1),())),(s1.2.1,())))))) (fun k=>(cnd (List.getD there s.1.2.1.toNat false) ((fg s.2.1.length (List.length (s.1.2.1::[])) 8)/\(k (((),()),((s.2.1++(s.1.2.1::[])),())))) (k (((),()),(s.2.1,())))))))) (K (s.2.1,()))))))) (((),(0,())),([],())))
theorem az1 (x:bi m9.args) (K:(List Int)×Unit->Prop):evF tab (lkp []) (aw []) Try.f118 (aj Try.f118) ak6 m9 x K=ack x.1 K:=by kernel_rfl
theorem baj:okC Try.f118.ntmps (aw []) (aj Try.f118)=true:=by kernel_rfl
theorem bak (there:List Bool) (hok:ae (okL m9.args (there,()))) (hpre:ae (m9.pre (there,()))):ack there (fun r=>r=m9.res (there,())):=by
 simp only [m9,okL,T.oks,T.ok,ap,ae,true_and,and_true,implies_true]at hok hpre
 try dsimp only [T.den]at hok
 try dsimp only [T.den]at hpre
 unfold ack
 have hm:there.length<=1099511627776:=hpre
 refine ca (fun (s:(brh×brg))=>0<=s.1.2.1/\s.1.2.1<=there.length/\s.2.1=qh s.1.2.1.toNat fun i=>there.getD i.toNat false) (fun (s:(brh×brg))=>(there.length - s.1.2.1).toNat) ?_ ⟨by simp,by simp,rfl⟩
 rintro ⟨⟨_,i,_⟩,l,_⟩ next ⟨h0,h1,h2⟩ hn hin hl
 try dsimp only at h0 h1 h2 hn ⊢
 subst h2
 refine bf (fun hc=>⟨h0,hc,dn (fun s1=>s1.2.1=qh (i+1).toNat fun i=>there.getD i.toNat false) (fun s1 hs _=>⟨by rw [au];(try dsimp only);omega,hn _ ⟨(by first | omega | (dsimp only;omega)),(by first | omega | (dsimp only;omega)),hs⟩ (by first | omega | (dsimp only;omega))⟩) (fun k hk=>be (fun hx=>⟨?_,hk _ ?_⟩) (fun hx=>hk _ ?_))⟩) (fun hc=>?_)
 ·have:=be3 (p:=fun i=>there.getD i.toNat false) i.toNat
  unfold fg
  rw [fy]
  have h3:(i::([]:List Int)).length=1:=rfl
  rw [h3]
  omega
 ·exact (bqp h0 hx).symm
 ·exact (bq3 h0 hx).symm
 ·have e1:i.toNat=there.length:=by omega
  simp only [m9]
  rw [e1]
theorem awv:dg Try.prog 118 m9:=
 d7 (Φ:=lkp []) ba bo (by kernel_rfl) (fn:=Try.f118) (c:=aj Try.f118) (by kernel_rfl) (by kernel_rfl) (by kernel_rfl) m9 rfl ak6 (aw []) (by kernel_rfl) (by kernel_rfl) baj (by decide) (fun x K=>ack x.1 K) az1 (fun x h1 h2=>bak x.1 h1 h2)
def spQ (c:ac) (f g h:Int):Bool:=cq c f g == h && (!idR c f && !idR c g)
def aue (c:ac) (h:Int):Bool:=mb c.2.1.length fun f=>mb c.2.1.length fun g=>spQ c f g h
def apq (c:ac):List Int:=qh c.2.1.length fun h=>!idR c h && !aue c h
theorem bpx {c:ac} {f g h:Int} (hn:¬ (0<=cq c f g/\idR c f=false/\idR c g=false)) (h0:0<=h):spQ c f g h=false:=by
 unfold spQ
 cases e:(cq c f g == h && (!idR c f && !idR c g))with
 | false=>rfl
 | true=>
  simp only [Bool.and_eq_true,beq_iff_eq,Bool.not_eq_true']at e
  exact absurd ⟨by omega,e.2.1,e.2.2⟩ hn
theorem bqa {c:ac} {f g h:Int} (hn:h ≠ cq c f g):spQ c f g h=false:=by
 unfold spQ
 rw [beq_eq_false_iff_ne.2 (Ne.symm hn),Bool.false_and]
def f9:Ct:=⟨[(.pt bj)],[false],fun x=>[ShapeP x.1],[(false,(.sl (.fz (.int .i64))))],fun x=>(apq x.1,()),false,none⟩
def x6:Ann:=(.s .n (.s .n (.s (.s .n (.l [(3,(.ref 11 [])),(14,(.d (.int .i64)))] [(11,(.sl (.fz .bool)))] [0,13] .n)) (.s (.s .n (.l [(3,(.ref 11 [])),(30,(.d (.int .i64)))] [(11,(.sl (.fz .bool)))] [0,28,29] (.s .n (.s .n (.s (.s .n (.s .n (.l [(3,(.ref 11 [])),(37,(.d (.int .i64)))] [(11,(.sl (.fz .bool)))] [0,5,28,29,30,35,36] (.s .n (.s .n (.s (.s .n (.s .n (.j [(3,(.ref 11 []))] [(11,(.sl (.fz .bool)))] [0,5,28,29,30,35,36,37] .n))) .n)))))) .n))))) .n))))
def xg:FuncId->Option Ct:=lkp [(40,e9),(68,gg),(118,m9)]
def og (c:ac) (K:(List Int)×Unit->Prop):Prop:=((0<=((c.2.1.length:Nat):Int))/\((((c.2.1.length:Nat):Int)<=((c.2.1.length:Nat):Int))/\((((c.2.1.length:Nat):Int)<=((140737488355328:Nat):Int))/\(((((c.2.1.length:Nat):Int) * ((1:Nat):Int))<=((140737488355328:Nat):Int))/\(bu (S:=(brh×((List Bool)×Unit))) (fun s=>(fun next=>((inK .i64 s.1.2.1)->((T.ok (.sl T.bool) s.2.1)->(cnd (decide (s.1.2.1 < (((List.length (List.replicate (Int.toNat ((c.2.1.length:Nat):Int)) false)):Nat):Int))) ((ShapeP c)/\((0<=s.1.2.1)/\((s.1.2.1 < ((c.2.1.length:Nat):Int))/\((0<=s.1.2.1)/\((s.1.2.1 < ((s.2.1.length:Nat):Int))/\((inK .i64 (s.1.2.1+1))/\(next (((),((s.1.2.1+1),())),((List.set s.2.1 s.1.2.1.toNat (!(idR c s.1.2.1))),()))))))))) (bu (S:=(brh×((List Bool)×Unit))) (fun s1=>(fun next1=>((inK .i64 s1.1.2.1)->((T.ok (.sl T.bool) s1.2.1)->(cnd (decide (s1.1.2.1 < ((c.2.2.2.2.length:Nat):Int))) ((0<=s1.1.2.1)/\((s1.1.2.1 < ((c.2.2.2.2.length:Nat):Int))/\(bu (S:=(brh×((List Bool)×Unit))) (fun s2=>(fun next2=>((inK .i64 s2.1.2.1)->((T.ok (.sl T.bool) s2.2.1)->(cnd (decide (s2.1.2.1 < (((List.length (List.getD c.2.2.2.2 s1.1.2.1.toNat [])):Nat):Int))) ((0<=s2.1.2.1)/\((s2.1.2.1 < (((List.length (List.getD c.2.2.2.2 s1.1.2.1.toNat [])):Nat):Int))/\((((decide (0<=(List.getD (List.getD c.2.2.2.2 s1.1.2.1.toNat []) s2.1.2.1.toNat 0)))=true)->((0<=s1.1.2.1)/\((s1.1.2.1 < ((c.2.1.length:Nat):Int))/\(ShapeP c))))/\(((((decide (0<=(List.getD (List.getD c.2.2.2.2 s1.1.2.1.toNat []) s2.1.2.1.toNat 0))) && (!(idR c s1.1.2.1)))=true)->((0<=s2.1.2.1)/\((s2.1.2.1 < ((c.2.1.length:Nat):Int))/\(ShapeP c))))/\(fk (S:=((Unit×Unit)×((List Bool)×Unit))) (fun s3=>((T.ok (.sl T.bool) s3.2.1)->((inK .i64 (s2.1.2.1+1))/\(next2 (((),((s2.1.2.1+1),())),(s3.2.1,())))))) (fun k=>(cnd (((decide (0<=(List.getD (List.getD c.2.2.2.2 s1.1.2.1.toNat []) s2.1.2.1.toNat 0))) && (!(idR c s1.1.2.1))) && (!(idR c s2.1.2.1))) ((0<=(List.getD (List.getD c.2.2.2.2 s1.1.2.1.toNat []) s2.1.2.1.toNat 0))/\(((List.getD (List.getD c.2.2.2.2 s1.1.2.1.toNat []) s2.1.2.1.toNat 0) < ((s2.2.1.length:Nat):Int))/\(k (((),()),((List.set s2.2.1 (Int.toNat (List.getD (List.getD c.2.2.2.2 s1.1.2.1.toNat []) s2.1.2.1.toNat 0)) false),()))))) (k (((),()),(s2.2.1,())))))))))) ((inK .i64 (s1.1.2.1+1))/\(next1 (((),((s1.1.2.1+1),())),(s2.2.1,()))))))))) (((),(0,())),(s1.2.1,()))))) ((s1.2.1.length<=1099511627776)/\(K ((qh s1.2.1.length (fun i=>(List.getD s1.2.1 i.toNat false))),())))))))) (((),(0,())),(s.2.1,())))))))) (((),(0,())),((List.replicate (Int.toNat ((c.2.1.length:Nat):Int)) false),())))))))
theorem agj (x:bi f9.args) (K:(List Int)×Unit->Prop):evF tab xg (aw []) Try.f64 (aj Try.f64) x6 f9 x K=og x.1 K:=by kernel_rfl
theorem af8:okC Try.f64.ntmps (aw []) (aj Try.f64)=true:=by kernel_rfl
theorem aga (c:ac) (hok:ae (okL f9.args (c,()))) (hpre:ae (f9.pre (c,()))):og c (fun r=>r=f9.res (c,())):=by
 simp only [f9,okL,T.oks,T.ok,ap,ae,true_and,and_true,implies_true]at hok hpre
 try dsimp only [T.den]at hok
 try dsimp only [T.den]at hpre
 unfold og
 have S:ShapeP c:=hpre
 clear hok hpre
 have hm:=S.m
 have hlc:=S.lc
 refine ⟨by omega,by omega,by omega,by omega,?_⟩
 simp only [Int.toNat_natCast,al4,c6]
 have hirr:apq c=qh c.2.1.length (fun h=>!idR c h && !(mb c.2.1.length fun f=>mb c.2.1.length fun g=>spQ c f g h)):=rfl
 have hrow:∀ i:Int,0<=i->i < c.2.1.length->(c.2.2.2.2.getD i.toNat []).length=c.2.1.length:=S.row
 have hyes:∀ i j:Int,0<=i->i < c.2.1.length->0<=j->j < c.2.1.length->0<=cq c i j->cq c i j < c.2.1.length:=fun i j i0 i1 j0 j1 h=>(S.yes i0 i1 j0 j1 ((S.comp i0 i1 j0 j1).1 h)).2.1
 generalize hn:c.2.1.length=m at *
 refine uq (fun i=>ce m fun h=>if h < i then !idR c h else false) (n:=m) (by omega) (ep fun h h0 _=>by rw [if_neg (by omega)]) ?_ ?_
 ·intro i next i0 i1 hn1 _ _
  try dsimp only at hn1 ⊢
  refine bf (fun _=>⟨S,i0,i1,i0,by rw [c6];exact i1,by rw [au];(try dsimp only);omega,?_⟩) (fun h=>absurd i1 h)
  rw [zn i0 i1]
  have e:(ce m fun y=>if y=i then !idR c i else if y < i then !idR c y else false)=ce m (fun h=>if h < i+1 then !idR c h else false):=by
   refine ep fun y y0 _=>?_
   by_cases hy:y=i
   ·rw [if_pos hy,if_pos (by omega),hy]
   ·rw [if_neg hy]
    by_cases h2:y < i
    ·rw [if_pos h2,if_pos (by omega)]
    ·rw [if_neg h2,if_neg (by omega)]
  rw [e];exact hn1
 ·intro next _ _
  try dsimp only
  refine bf (fun h=>absurd h (Int.lt_irrefl _)) (fun _=>?_)
  refine uq (fun i=>ce m fun h=>!idR c h && !(mb i.toNat fun f=>mb m fun g=>spQ c f g h)) (n:=m) (by omega) (ep fun h h0 h1=>by rw [if_pos h1];simp [mb]) ?_ ?_
  ·intro i next1 i0 i1 hn2 _ _
   try dsimp only at hn2 ⊢
   have hr:=hrow i i0 i1
   refine bf (fun _=>⟨i0,by omega,?_⟩) (fun h=>absurd (by omega) h)
   refine uq (fun j=>ce m fun h=>!idR c h && !((mb i.toNat fun f=>mb m fun g=>spQ c f g h) || mb j.toNat fun g=>spQ c i g h)) (n:=m) (by omega) (ep fun h _ _=>by simp [mb]) ?_ ?_
   ·intro j next2 j0 j1 hn3 _ _
    try dsimp only at hn3 ⊢
    refine bf (fun _=>⟨j0,by omega,fun _=>⟨i0,i1,S⟩,fun _=>⟨j0,j1,S⟩,?_⟩) (fun h=>absurd (by omega) h)
    refine dn (fun q=>q.2.1=ce m fun h=>!idR c h && !((mb i.toNat fun f=>mb m fun g=>spQ c f g h) || mb (j+1).toNat fun g=>spQ c i g h)) (fun q hq _=>⟨by rw [au];(try dsimp only);omega,by rw [hq];exact hn3⟩) (fun k hk=>be (fun hc=>?_) (fun hc=>hk _ ?_))
    ·simp only [Bool.and_eq_true,decide_eq_true_eq,Bool.not_eq_true']at hc
     obtain ⟨⟨hc0,hi⟩,hj⟩:=hc
     have hcm:cq c i j < m:=hyes i j i0 i1 j0 j1 hc0
     refine ⟨hc0,by rw [c6];exact hcm,hk _ ?_⟩
     show List.set _ (cq c i j).toNat false=_
     rw [zn (k:=cq c i j) hc0 hcm]
     refine ep fun y y0 y1=>?_
     rw [apx j0]
     by_cases hy:y=cq c i j
     ·rw [if_pos hy];simp [spQ,hy,hi,hj]
     ·rw [if_neg hy,bqa hy,Bool.or_false]
    ·try dsimp only
     refine ep fun y y0 y1=>?_
     rw [apx j0,bpx (fun h=>?_) y0,Bool.or_false]
     have h1:0<=(c.2.2.2.2.getD i.toNat []).getD j.toNat 0:=h.1
     rw [h.2.1,h.2.2,decide_eq_true h1]at hc
     cases hc
   ·intro next2 _ _
    try dsimp only
    refine bf (fun h=>absurd h (by omega)) (fun _=>⟨by rw [au];(try dsimp only);omega,?_⟩)
    have e:(ce m fun h=>!idR c h && !((mb i.toNat fun f=>mb m fun g=>spQ c f g h) || mb ((m:Int)).toNat fun g=>spQ c i g h))=ce m (fun h=>!idR c h && !(mb (i+1).toNat fun f=>mb m fun g=>spQ c f g h)):=ep fun y _ _=>by rw [apx i0];rfl
    rw [e];exact hn2
  ·intro next1 _ _
   try dsimp only
   refine bf (fun h=>absurd h (by omega)) (fun _=>⟨by rw [c6];omega,?_⟩)
   have e:qh (ce m fun h=>!idR c h && !(mb ((m:Int)).toNat fun f=>mb m fun g=>spQ c f g h)).length (fun i=>(ce m fun h=>!idR c h && !(mb ((m:Int)).toNat fun f=>mb m fun g=>spQ c f g h)).getD i.toNat false)=apq c:=by
    rw [c6,hirr]
    exact apz fun i i0 i1=>by rw [uy i0 i1];rfl
   rw [e]
   rfl
theorem aep:dg Try.prog 64 f9:=
 d7 (Φ:=xg) (am nv (am age (am awv ba))) bo (by kernel_rfl) (fn:=Try.f64) (c:=aj Try.f64) (by kernel_rfl) (by kernel_rfl) (by kernel_rfl) f9 rfl x6 (aw []) (by kernel_rfl) (by kernel_rfl) af8 (by decide) (fun x K=>og x.1 K) agj (fun x h1 h2=>aga x.1 h1 h2)
structure ArrP (c:ac) (l:List (Int×Int×Int)):Prop where
 at_:∀ i:Int,0<=i->i < l.length->0<=(l.getD i.toNat (0,(0,0))).2.2/\(l.getD i.toNat (0,(0,0))).2.2 < c.2.1.length
structure TabRP (o:ac) (a:List Int) (c:ac) (b:List Int):Prop where
 sh:ShapeP c
 lb:b.length=c.2.1.length
 wb:bn b c.2.1.length=true
 la:a.length=c.2.1.length
 lo:o.2.1.length=c.2.1.length
 lt:o.2.2.1.length=c.2.1.length
 co:∀ f g:Int,0<=f->f < c.2.1.length->0<=g->g < c.2.1.length->o.2.2.1.getD f.toNat 0=o.2.1.getD g.toNat 0->c.2.2.1.getD (b.getD f.toNat 0).toNat 0=c.2.1.getD (b.getD g.toNat 0).toNat 0
def aqn (o:ac) (F:Int->Int->Int) (f g:Int):Int:=if o.2.2.1.getD f.toNat 0=o.2.1.getD g.toNat 0 then F f g else -1
def af5 (o:ac) (F:Int->Int->Int):List (List Int):=ce o.2.1.length fun f=>ce o.2.1.length fun g=>aqn o F f g
def tbT (F:Int->Int->Int) (n:Nat) (i j:Int):List (List Int):=ce n fun e=>if e=i then (ce n fun g=>if g < j then F i g else 0)else if e < i then ce n (F e)else []
theorem awi {F:Int->Int->Int} {n:Nat} {i j:Int}:(tbT F n i j).length=n:=c6 _
theorem awy {F:Int->Int->Int} {n:Nat} {i j:Int} (i0:0<=i) (i1:i < n):(tbT F n i j).getD i.toNat []=ce n fun g=>if g < j then F i g else 0:=by
 unfold tbT;rw [uy i0 i1,if_pos rfl]
theorem bql {F:Int->Int->Int} {n:Nat} {i j:Int} (i0:0<=i) (i1:i < n) (j0:0<=j) (j1:j < n):(tbT F n i j).set i.toNat (((tbT F n i j).getD i.toNat []).set j.toNat (F i j))=tbT F n i (j+1):=by
 rw [awy i0 i1,zn j0 j1]
 unfold tbT
 rw [zn i0 i1]
 refine ep fun e _ _=>?_
 by_cases h:e=i
 ·rw [if_pos h,if_pos h]
  refine ep fun g _ _=>?_
  by_cases hg:g=j
  ·rw [if_pos hg,if_pos (by omega),hg]
  ·rw [if_neg hg]
   by_cases h2:g < j
   ·rw [if_pos h2,if_pos (by omega)]
   ·rw [if_neg h2,if_neg (by omega)]
 ·rw [if_neg h,if_neg h,if_neg h]
theorem bjj {A:List (List Int)} {i j:Nat} {w v:Int} (h:i < A.length):(A.set i ((A.getD i []).set j w)).set i (((A.set i ((A.getD i []).set j w)).getD i []).set j v)=A.set i ((A.getD i []).set j v):=by
 rw [atn _ _ _ _ _ h,if_pos rfl,List.set_set,List.set_set]
theorem bq2 {F:Int->Int->Int} {n:Nat} {i:Int} (i0:0<=i) (i1:i < n):(ce n fun e=>if e < i then ce n (F e)else []).set i.toNat (ce n fun _=>0)=tbT F n i 0:=by
 rw [zn i0 i1]
 unfold tbT
 refine ep fun e _ _=>?_
 by_cases h:e=i
 ·rw [if_pos h,if_pos h];exact ep fun g g0 _=>by rw [if_neg (by omega)]
 ·rw [if_neg h,if_neg h]
theorem bqr {F:Int->Int->Int} {n:Nat} {i:Int}:tbT F n i n=ce n fun e=>if e < i+1 then ce n (F e)else []:=by
 unfold tbT
 refine ep fun e _ _=>?_
 by_cases h:e=i
 ·rw [if_pos h,if_pos (by omega),h];exact ep fun g _ g1=>by rw [if_pos g1]
 ·rw [if_neg h]
  by_cases h2:e < i
  ·rw [if_pos h2,if_pos (by omega)]
  ·rw [if_neg h2,if_neg (by omega)]
structure CmpP (k:bd6) (c:ac):Prop where
 sh:ShapeP c
 ar:ArrP c k.2.2
 lf:k.1.2.1.length=k.2.2.length
 lt:k.1.2.2.1.length=k.2.2.length
 le:k.2.2.length<=40
def kr:Ct:=⟨[bj],[true],fun x=>[],[(false,(.fz .bool))],fun x=>((decide (x.1.1<=8) && decide ((x.1.2.1.length:Int)<=40)),()),false,none⟩
def aa9 (c:ac) (K:Bool×Unit->Prop):Prop:=(K (((decide (c.1<=8)) && (decide (((c.2.1.length:Nat):Int)<=40))),()))
theorem awt (x:bi kr.args) (K:Bool×Unit->Prop):evF tab (lkp []) (aw []) Try.f107 (aj Try.f107) .n kr x K=aa9 x.1 K:=by kernel_rfl
theorem awg:okC Try.f107.ntmps (aw []) (aj Try.f107)=true:=by kernel_rfl
theorem ax8 (c:ac) (hok:ae (okL kr.args (c,()))) (hpre:ae (kr.pre (c,()))):aa9 c (fun r=>r=kr.res (c,())):=by
 simp only [kr,okL,T.oks,T.ok,ap,ae,true_and,and_true,implies_true]at hok hpre
 try dsimp only [T.den]at hok
 try dsimp only [T.den]at hpre
 unfold aa9
 rfl
theorem zz:dg Try.prog 107 kr:=
 d7 (Φ:=lkp []) ba bo (by kernel_rfl) (fn:=Try.f107) (c:=aj Try.f107) (by kernel_rfl) (by kernel_rfl) (by kernel_rfl) kr rfl .n (aw []) (by kernel_rfl) (by kernel_rfl) awg (by decide) (fun x K=>aa9 x.1 K) awt (fun x h1 h2=>ax8 x.1 h1 h2)
def nk:Ct:=⟨[bj,(.int .i64),(.int .i64)],[true,false,false],fun x=>[0<=x.2.1,x.2.1 < x.1.2.2.2.2.length,0<=x.2.2.1,x.2.2.1 < (x.1.2.2.2.2.getD x.2.1.toNat []).length],[(false,(.fz (.int .i64)))],fun x=>(cq x.1 x.2.1 x.2.2.1,()),false,none⟩
def abr (c:ac) (f:Int) (g:Int) (K:Int×Unit->Prop):Prop:=((0<=f)/\((f < ((c.2.2.2.2.length:Nat):Int))/\((0<=g)/\((g < (((List.length (List.getD c.2.2.2.2 f.toNat [])):Nat):Int))/\(K ((List.getD (List.getD c.2.2.2.2 f.toNat []) g.toNat 0),()))))))
theorem av5 (x:bi nk.args) (K:Int×Unit->Prop):evF tab (lkp []) (aw []) Try.f61 (aj Try.f61) .n nk x K=abr x.1 x.2.1 x.2.2.1 K:=by kernel_rfl
theorem axm:okC Try.f61.ntmps (aw []) (aj Try.f61)=true:=by kernel_rfl
theorem ayq (c:ac) (f:Int) (g:Int) (hok:ae (okL nk.args (c,f,g,()))) (hpre:ae (nk.pre (c,f,g,()))):abr c f g (fun r=>r=nk.res (c,f,g,())):=by
 simp only [nk,okL,T.oks,T.ok,ap,ae,true_and,and_true,implies_true]at hok hpre
 try dsimp only [T.den]at hok
 try dsimp only [T.den]at hpre
 unfold abr
 exact ⟨hpre.1,hpre.2.1,hpre.2.2.1,hpre.2.2.2,rfl⟩
theorem avm:dg Try.prog 61 nk:=
 d7 (Φ:=lkp []) ba bo (by kernel_rfl) (fn:=Try.f61) (c:=aj Try.f61) (by kernel_rfl) (by kernel_rfl) (by kernel_rfl) nk rfl .n (aw []) (by kernel_rfl) (by kernel_rfl) axm (by decide) (fun x K=>abr x.1 x.2.1 x.2.2.1 K) av5 (fun x h1 h2=>ayq x.1 x.2.1 x.2.2.1 h1 h2)
structure ColP (l:List (List Int)) (k:Int):Prop where
 k0:0<=k
 len:l.length<=1099511627776
 row:∀ r ∈ l,k < r.length
def ko:Ct:=⟨[(.sl (.int .i64)),(.sl (.int .i64))],[false,false],fun x=>[],[(false,(.fz .bool))],fun x=>(eqR (.sl (.int .i64)) x.1 x.2.1,()),false,none⟩
def ajr:Ann:=(.s .n (.s .n (.s (.s .n (.l [(5,(.d (.int .i64)))] [] [0,1] .n)) .n)))
def abx (a:List Int) (b:List Int) (K:Bool×Unit->Prop):Prop:=(cnd (((a.length:Nat):Int) != ((b.length:Nat):Int)) (K (false,())) (bu (S:=brl) (fun s=>(fun next=>((inK .i64 s.1.1)->(cnd (decide (s.1.1 < ((a.length:Nat):Int))) ((0<=s.1.1)/\((s.1.1 < ((a.length:Nat):Int))/\((0<=s.1.1)/\((s.1.1 < ((b.length:Nat):Int))/\(cnd ((List.getD a s.1.1.toNat 0) != (List.getD b s.1.1.toNat 0)) (K (false,())) ((inK .i64 (s.1.1+1))/\(next (((s.1.1+1),()),())))))))) (K (true,())))))) ((0,()),())))
theorem av9 (x:bi ko.args) (K:Bool×Unit->Prop):evF tab (lkp []) (aw [(6,9)]) Try.f62 (aj Try.f62) ajr ko x K=abx x.1 x.2.1 K:=by kernel_rfl
theorem ayy:okC Try.f62.ntmps (aw [(6,9)]) (aj Try.f62)=true:=by kernel_rfl
theorem av8 (a:List Int) (b:List Int) (hok:ae (okL ko.args (a,b,()))) (hpre:ae (ko.pre (a,b,()))):abx a b (fun r=>r=ko.res (a,b,())):=by
 simp only [ko,okL,T.oks,T.ok,ap,ae,true_and,and_true,implies_true]at hok hpre
 try dsimp only [T.den]at hok
 try dsimp only [T.den]at hpre
 unfold abx
 have ha:a.length<=140737488355328:=by simp only [fy]at hok;omega
 clear hok
 refine be (fun h=>?_) (fun h=>?_)
 ·simp only [ko];rw [bnj];rintro rfl;simp at h
 have hl:a.length=b.length:=by rw [bne_eq_false_iff_eq]at h;omega
 refine nh (n:=a.length) (fun i=>a.take i.toNat=b.take i.toNat) (by omega) (by simp) ?_ ?_
 ·intro i next i0 i1 hP hn hin
  have hta:=af3 a 0 i0 i1
  have htb:=af3 b 0 i0 (by omega)
  refine bf (fun _=>⟨i0,i1,i0,by omega,be (fun h1=>?_) (fun h1=>⟨by rw [au];(try dsimp only);omega,hn ?_⟩)⟩) (fun h=>absurd i1 h)
  ·simp only [ko];rw [bnj];rintro rfl;simp at h1
  ·rw [bne_eq_false_iff_eq]at h1
   rw [hta,htb,hP,h1]
 ·intro next hP hin
  refine bf (fun h=>absurd h (by dsimp only;omega)) (fun _=>?_)
  rw [ak5 _ (Int.le_refl _),ak5 _ (by omega)]at hP
  simp only [ko,hP,bbp]
theorem at8:dg Try.prog 62 ko:=
 d7 (Φ:=lkp []) ba bo (by kernel_rfl) (fn:=Try.f62) (c:=aj Try.f62) (by kernel_rfl) (by kernel_rfl) (by kernel_rfl) ko rfl ajr (aw [(6,9)]) (by kernel_rfl) (by kernel_rfl) ayy (by decide) (fun x K=>abx x.1 x.2.1 K) av9 (fun x h1 h2=>av8 x.1 x.2.1 h1 h2)
theorem bf0 {c:ac} (h:m6 c=true):ShapeP c:=by
 simp only [m6,Bool.and_eq_true]at h;exact adq.1 h.1
def anh (c:ac):List Int×Int:=if m6 c=true then (apq c,0)else ([],1)
def fm:Ct:=⟨[bj],[true],fun x=>[],[(false,(.sl (.fz (.int .i64)))),(false,(.fz (.int .i64)))],fun x=>((anh x.1).1,(anh x.1).2,()),false,none⟩
def zv:FuncId->Option Ct:=lkp [(64,f9),(48,db)]
def pv (c:ac) (K:(List Int)×Int×Unit->Prop):Prop:=(cnd (!(m6 c)) (K ([],(1,()))) ((ShapeP c)/\(K ((apq c),(0,())))))
theorem ah9 (x:bi fm.args) (K:(List Int)×Int×Unit->Prop):evF tab zv (aw []) Try.f35 (aj Try.f35) .n fm x K=pv x.1 K:=by kernel_rfl
theorem aif:okC Try.f35.ntmps (aw []) (aj Try.f35)=true:=by kernel_rfl
theorem ai7 (c:ac) (hok:ae (okL fm.args (c,()))) (hpre:ae (fm.pre (c,()))):pv c (fun r=>r=fm.res (c,())):=by
 simp only [fm,okL,T.oks,T.ok,ap,ae,true_and,and_true,implies_true]at hok hpre
 try dsimp only [T.den]at hok
 try dsimp only [T.den]at hpre
 unfold pv
 refine be (fun hx=>?_) (fun hx=>?_)
 ·have h:m6 c=false:=by rw [Bool.not_eq_true']at hx;exact hx
  simp only [fm,anh];rw [if_neg (by rw [h];simp)]
 ·have h:m6 c=true:=by rw [Bool.not_eq_false']at hx;exact hx
  refine ⟨bf0 h,?_⟩
  simp only [fm,anh];rw [if_pos h]
theorem ahs:dg Try.prog 35 fm:=
 d7 (Φ:=zv) (am aep (am rz ba)) bo (by kernel_rfl) (fn:=Try.f35) (c:=aj Try.f35) (by kernel_rfl) (by kernel_rfl) (by kernel_rfl) fm rfl .n (aw []) (by kernel_rfl) (by kernel_rfl) aif (by decide) (fun x K=>pv x.1 K) ah9 (fun x h1 h2=>ai7 x.1 h1 h2)
def lj:Ct:=⟨[bj],[true],fun x=>[],[(false,(.fz .bool))],fun x=>(m6 x.1,()),false,none⟩
def xe (c:ac) (K:Bool×Unit->Prop):Prop:=(K ((m6 c),()))
theorem ara (x:bi lj.args) (K:Bool×Unit->Prop):evF tab (lkp [(48,db)]) (aw []) Try.f36 (aj Try.f36) .n lj x K=xe x.1 K:=by kernel_rfl
theorem arf:okC Try.f36.ntmps (aw []) (aj Try.f36)=true:=by kernel_rfl
theorem aq3 (c:ac) (hok:ae (okL lj.args (c,()))) (hpre:ae (lj.pre (c,()))):xe c (fun r=>r=lj.res (c,())):=by
 simp only [lj,okL,T.oks,T.ok,ap,ae,true_and,and_true,implies_true]at hok hpre
 try dsimp only [T.den]at hok
 try dsimp only [T.den]at hpre
 unfold xe
 rfl
theorem aoy:dg Try.prog 36 lj:=
 d7 (Φ:=lkp [(48,db)]) (am rz ba) bo (by kernel_rfl) (fn:=Try.f36) (c:=aj Try.f36) (by kernel_rfl) (by kernel_rfl) (by kernel_rfl) lj rfl .n (aw []) (by kernel_rfl) (by kernel_rfl) arf (by decide) (fun x K=>xe x.1 K) ara (fun x h1 h2=>aq3 x.1 h1 h2)
def bmr (a b:List Int) (i j:Int):Bool:=mb a.length fun e=>a.getD e.toNat 0 == i && b.getD e.toNat 0 == j
def fb (a b:List Int):Nat->Int->Int->Bool
 | 0,i,j=>bmr a b i j
 | k+1,i,j=>fb a b k i j || fb a b k i k && fb a b k k j
def y9 (n:Int) (a b:List Int):Bool:=mb n.toNat fun i=>fb a b n.toNat i i
theorem bhd {a b:List Int} {k:Int} (h0:0<=k) (i j:Int):fb a b (k+1).toNat i j=(fb a b k.toNat i j || fb a b k.toNat i k && fb a b k.toNat k j):=by
 rw [show (k+1).toNat=k.toNat+1 from by omega,fb,show ((k.toNat:Nat):Int)=k from by omega]
theorem bqj {a b:List Int} {k:Int} (h0:0<=k) (i:Int):fb a b (k+1).toNat i k=fb a b k.toNat i k:=by
 rw [bhd h0];cases fb a b k.toNat i k <;> simp
theorem bqn {a b:List Int} {k:Int} (h0:0<=k) (j:Int):fb a b (k+1).toNat k j=fb a b k.toNat k j:=by
 rw [bhd h0];cases fb a b k.toNat k j <;> simp
def mtB (N:Nat) (f:Int->Int->Bool):List (List Bool):=ce N fun i=>ce N (f i)
theorem sb {N:Nat} {f:Int->Int->Bool}:(mtB N f).length=N:=c6 _
theorem alw {N:Nat} {f:Int->Int->Bool} {i:Int} (i0:0<=i) (i1:i < N):(mtB N f).getD i.toNat []=ce N (f i):=uy i0 i1
theorem ap9 {N:Nat} {f:Int->Int->Bool} {i j:Int} (i0:0<=i) (i1:i < N) (j0:0<=j) (j1:j < N):((mtB N f).getD i.toNat []).getD j.toNat false=f i j:=by
 rw [alw i0 i1,uy j0 j1]
theorem adn {N:Nat} {f g:Int->Int->Bool} (h:∀ i j:Int,0<=i->i < N->0<=j->j < N->f i j=g i j):mtB N f=mtB N g:=ep fun i i0 i1=>ep fun j j0 j1=>h i j i0 i1 j0 j1
theorem bfp {N:Nat} {f:Int->Int->Bool} {i j:Int} {v:Bool} (i0:0<=i) (i1:i < N) (j0:0<=j) (j1:j < N):(mtB N f).set i.toNat (((mtB N f).getD i.toNat []).set j.toNat v)=mtB N (fun x y=>if x=i/\y=j then v else f x y):=by
 rw [alw i0 i1,zn j0 j1]
 unfold mtB
 rw [zn i0 i1]
 refine ep fun x _ _=>?_
 by_cases h:x=i
 ·rw [if_pos h]
  refine ep fun y _ _=>?_
  dsimp only
  by_cases h2:y=j
  ·rw [if_pos h2,if_pos ⟨h,h2⟩]
  ·rw [if_neg h2,if_neg (fun hh=>h2 hh.2),h]
 ·rw [if_neg h]
  exact ep fun y _ _=>by dsimp only;rw [if_neg (fun hh=>h hh.1)]
def kt:Ct:=⟨[(.int .i64),(.sl (.int .i64)),(.sl (.int .i64))],[false,false,false],fun x=>[0<=x.1,x.1<=8,bn x.2.1 x.1=true,bn x.2.2.1 x.1=true,x.2.2.1.length=x.2.1.length],[(false,(.fz .bool))],fun x=>(y9 x.1 x.2.1 x.2.2.1,()),false,none⟩
def aii:Ann:=(.s .n (.s .n (.s (.s .n (.l [(7,(.ref 15 [])),(18,(.d (.int .i64)))] [(15,(.sl (.sl (.fz .bool))))] [0,1,2,17] .n)) (.s (.s .n (.l [(7,(.ref 15 [])),(29,(.d (.int .i64)))] [(15,(.sl (.sl (.fz .bool))))] [1,2,28] .n)) (.s (.s .n (.l [(7,(.ref 15 [])),(47,(.d (.int .i64)))] [(15,(.sl (.sl (.fz .bool))))] [46] (.s .n (.s .n (.s (.s .n (.s .n (.l [(7,(.ref 15 [])),(52,(.d (.int .i64)))] [(15,(.sl (.sl (.fz .bool))))] [10,46,47,51] (.s .n (.s .n (.s (.s .n (.s .n (.l [(7,(.ref 15 [])),(57,(.d (.int .i64)))] [(15,(.sl (.sl (.fz .bool))))] [10,11,46,47,51,52,56] .n))) .n)))))) .n))))) (.s (.s .n (.l [(96,(.d (.int .i64)))] [] [7,95] .n)) .n))))))
def aaj (n:Int) (from_:List Int) (to:List Int) (K:Bool×Unit->Prop):Prop:=((0<=n)/\((n<=n)/\((n<=((140737488355328:Nat):Int))/\(((n * ((24:Nat):Int))<=((140737488355328:Nat):Int))/\(bu (S:=brw) (fun s=>(fun next=>((inK .i64 s.1.2.1)->((T.ok (.sl (.sl T.bool)) s.2.1)->(cnd (decide (s.1.2.1 < (((List.length (List.replicate n.toNat ([]:List Bool))):Nat):Int))) ((0<=n)/\((n<=n)/\((n<=((140737488355328:Nat):Int))/\(((n * ((1:Nat):Int))<=((140737488355328:Nat):Int))/\((0<=s.1.2.1)/\((s.1.2.1 < ((s.2.1.length:Nat):Int))/\((inK .i64 (s.1.2.1+1))/\(next (((),((s.1.2.1+1),())),((List.set s.2.1 s.1.2.1.toNat (List.replicate n.toNat false)),())))))))))) (bu (S:=brw) (fun s1=>(fun next1=>((inK .i64 s1.1.2.1)->((T.ok (.sl (.sl T.bool)) s1.2.1)->(cnd (decide (s1.1.2.1 < ((from_.length:Nat):Int))) ((0<=s1.1.2.1)/\((s1.1.2.1 < ((from_.length:Nat):Int))/\((0<=(List.getD from_ s1.1.2.1.toNat 0))/\(((List.getD from_ s1.1.2.1.toNat 0) < ((s1.2.1.length:Nat):Int))/\((0<=s1.1.2.1)/\((s1.1.2.1 < ((to.length:Nat):Int))/\((0<=(List.getD to s1.1.2.1.toNat 0))/\(((List.getD to s1.1.2.1.toNat 0) < (((List.length (List.getD s1.2.1 (Int.toNat (List.getD from_ s1.1.2.1.toNat 0)) ([]:List Bool))):Nat):Int))/\((inK .i64 (s1.1.2.1+1))/\(next1 (((),((s1.1.2.1+1),())),((List.set s1.2.1 (Int.toNat (List.getD from_ s1.1.2.1.toNat 0)) (List.set (List.getD s1.2.1 (Int.toNat (List.getD from_ s1.1.2.1.toNat 0)) ([]:List Bool)) (Int.toNat (List.getD to s1.1.2.1.toNat 0)) true)),())))))))))))) (bu (S:=brw) (fun s2=>(fun next2=>((inK .i64 s2.1.2.1)->((T.ok (.sl (.sl T.bool)) s2.2.1)->(cnd (decide (s2.1.2.1 < ((s1.2.1.length:Nat):Int))) (bu (S:=brw) (fun s3=>(fun next3=>((inK .i64 s3.1.2.1)->((T.ok (.sl (.sl T.bool)) s3.2.1)->(cnd (decide (s3.1.2.1 < ((s2.2.1.length:Nat):Int))) (bu (S:=brw) (fun s4=>(fun next4=>((inK .i64 s4.1.2.1)->((T.ok (.sl (.sl T.bool)) s4.2.1)->(cnd (decide (s4.1.2.1 < ((s3.2.1.length:Nat):Int))) ((0<=s3.1.2.1)/\((s3.1.2.1 < ((s4.2.1.length:Nat):Int))/\((0<=s3.1.2.1)/\((s3.1.2.1 < ((s4.2.1.length:Nat):Int))/\((0<=s4.1.2.1)/\((s4.1.2.1 < (((List.length (List.getD s4.2.1 s3.1.2.1.toNat ([]:List Bool))):Nat):Int))/\((((List.getD (List.getD s4.2.1 s3.1.2.1.toNat ([]:List Bool)) s4.1.2.1.toNat false)=false)->((s3.1.2.1 < ((s4.2.1.length:Nat):Int))/\(0<=s3.1.2.1)))/\((((List.getD (List.getD s4.2.1 s3.1.2.1.toNat ([]:List Bool)) s4.1.2.1.toNat false)=false)->((s2.1.2.1 < (((List.length (List.getD s4.2.1 s3.1.2.1.toNat ([]:List Bool))):Nat):Int))/\(0<=s2.1.2.1)))/\(((((List.getD (List.getD s4.2.1 s3.1.2.1.toNat ([]:List Bool)) s4.1.2.1.toNat false)=false)/\((List.getD (List.getD s4.2.1 s3.1.2.1.toNat ([]:List Bool)) s2.1.2.1.toNat false)=true))->((s2.1.2.1 < ((s4.2.1.length:Nat):Int))/\(0<=s2.1.2.1)))/\(((((List.getD (List.getD s4.2.1 s3.1.2.1.toNat ([]:List Bool)) s4.1.2.1.toNat false)=false)/\((List.getD (List.getD s4.2.1 s3.1.2.1.toNat ([]:List Bool)) s2.1.2.1.toNat false)=true))->((s4.1.2.1 < (((List.length (List.getD s4.2.1 s2.1.2.1.toNat ([]:List Bool))):Nat):Int))/\(0<=s4.1.2.1)))/\((0<=s4.1.2.1)/\((s4.1.2.1 < (((List.length (List.getD s4.2.1 s3.1.2.1.toNat ([]:List Bool))):Nat):Int))/\((inK .i64 (s4.1.2.1+1))/\(next4 (((),((s4.1.2.1+1),())),((List.set s4.2.1 s3.1.2.1.toNat (List.set (List.getD s4.2.1 s3.1.2.1.toNat ([]:List Bool)) s4.1.2.1.toNat ((List.getD (List.getD s4.2.1 s3.1.2.1.toNat ([]:List Bool)) s4.1.2.1.toNat false) || ((List.getD (List.getD s4.2.1 s3.1.2.1.toNat ([]:List Bool)) s2.1.2.1.toNat false) && (List.getD (List.getD s4.2.1 s2.1.2.1.toNat ([]:List Bool)) s4.1.2.1.toNat false))))),())))))))))))))))) ((inK .i64 (s3.1.2.1+1))/\(next3 (((),((s3.1.2.1+1),())),(s4.2.1,()))))))))) (((),(0,())),(s3.2.1,()))) ((inK .i64 (s2.1.2.1+1))/\(next2 (((),((s2.1.2.1+1),())),(s3.2.1,()))))))))) (((),(0,())),(s2.2.1,()))) (bu (S:=brl) (fun s3=>(fun next3=>((inK .i64 s3.1.1)->(cnd (decide (s3.1.1 < ((s2.2.1.length:Nat):Int))) ((0<=s3.1.1)/\((s3.1.1 < ((s2.2.1.length:Nat):Int))/\((0<=s3.1.1)/\((s3.1.1 < (((List.length (List.getD s2.2.1 s3.1.1.toNat ([]:List Bool))):Nat):Int))/\(cnd (List.getD (List.getD s2.2.1 s3.1.1.toNat ([]:List Bool)) s3.1.1.toNat false) (K (true,())) ((inK .i64 (s3.1.1+1))/\(next3 (((s3.1.1+1),()),())))))))) (K (false,())))))) ((0,()),()))))))) (((),(0,())),(s1.2.1,())))))))) (((),(0,())),(s.2.1,())))))))) (((),(0,())),((List.replicate n.toNat ([]:List Bool)),())))))))
theorem avo (x:bi kt.args) (K:Bool×Unit->Prop):evF tab (lkp []) (aw [(21,30),(10,11)]) Try.f85 (aj Try.f85) aii kt x K=aaj x.1 x.2.1 x.2.2.1 K:=by kernel_rfl
theorem auc:okC Try.f85.ntmps (aw [(21,30),(10,11)]) (aj Try.f85)=true:=by kernel_rfl
theorem au1 (n:Int) (from_:List Int) (to:List Int) (hok:ae (okL kt.args (n,from_,to,()))) (hpre:ae (kt.pre (n,from_,to,()))):aaj n from_ to (fun r=>r=kt.res (n,from_,to,())):=by
 simp only [kt,okL,T.oks,T.ok,ap,ae,true_and,and_true,implies_true]at hok hpre
 try dsimp only [T.den]at hok
 try dsimp only [T.den]at hpre
 unfold aaj
 obtain ⟨n0,n8,wf,wt,hl⟩:=hpre
 have hlf:from_.length<=140737488355328:=by simp only [fy]at hok;omega
 clear hok
 refine ⟨n0,by omega,by omega,by omega,?_⟩
 have hN:∃ N:Nat,n=N:=⟨n.toNat,by omega⟩
 obtain ⟨N,rfl⟩:=hN
 have hgoal:y9 (N:Int) from_ to=mb N fun i=>fb from_ to N i i:=rfl
 simp only [Int.toNat_natCast,al4,c6]
 refine uq (fun i=>ce N fun r=>if r < i then ce N (fun _=>false)else []) (n:=N) (by omega) (ep fun r r0 _=>by rw [if_neg (by omega)]) ?_ ?_
 ·intro i next i0 i1 hn1 _ _
  try dsimp only at hn1 ⊢
  refine bf (fun _=>⟨by omega,by omega,by omega,by omega,i0,by rw [c6];exact i1,by rw [au];(try dsimp only);omega,?_⟩) (fun h=>absurd i1 h)
  rw [zn i0 i1]
  have e:(ce N fun y=>if y=i then ce N (fun _=>false)else if y < i then ce N (fun _=>false)else [])=ce N (fun r=>if r < i+1 then ce N (fun _=>false)else []):=by
   refine ep fun y y0 _=>?_
   by_cases hy:y=i
   ·rw [if_pos hy,if_pos (by omega)]
   ·rw [if_neg hy]
    by_cases h2:y < i
    ·rw [if_pos h2,if_pos (by omega)]
    ·rw [if_neg h2,if_neg (by omega)]
  rw [e];exact hn1
 intro next _ _
 try dsimp only
 refine bf (fun h=>absurd h (Int.lt_irrefl _)) (fun _=>?_)
 refine uq (fun e=>mtB N fun i j=>mb e.toNat fun q=>from_.getD q.toNat 0 == i && to.getD q.toNat 0 == j) (n:=from_.length) (by omega) (ep fun r r0 r1=>by rw [if_pos r1];exact ep fun _ _ _=>rfl) ?_ ?_
 ·intro e next1 e0 e1 hn1 _ _
  try dsimp only at hn1 ⊢
  have hf:=io.1 wf e e0 e1
  have ht:=io.1 wt e e0 (by omega)
  refine bf (fun _=>⟨e0,e1,hf.1,by rw [sb];exact hf.2,e0,by omega,ht.1,by rw [alw hf.1 hf.2,c6];exact ht.2,by rw [au];(try dsimp only);omega,?_⟩) (fun h=>absurd e1 h)
  rw [bfp hf.1 hf.2 ht.1 ht.2]
  have e:(mtB N fun x y=>if x=from_.getD e.toNat 0/\y=to.getD e.toNat 0 then true else mb e.toNat fun q=>from_.getD q.toNat 0 == x && to.getD q.toNat 0 == y)=mtB N (fun i j=>mb (e+1).toNat fun q=>from_.getD q.toNat 0 == i && to.getD q.toNat 0 == j):=by
   refine adn fun x y _ _ _ _=>?_
   rw [apx e0]
   by_cases h:x=from_.getD e.toNat 0/\y=to.getD e.toNat 0
   ·rw [if_pos h,h.1,h.2];simp
   ·rw [if_neg h]
    have:(from_.getD e.toNat 0 == x && to.getD e.toNat 0 == y)=false:=by
     cases hb:(from_.getD e.toNat 0 == x && to.getD e.toNat 0 == y)with
     | false=>rfl
     | true=>
      simp only [Bool.and_eq_true,beq_iff_eq]at hb
      exact absurd ⟨hb.1.symm,hb.2.symm⟩ h
    rw [this,Bool.or_false]
  rw [e];exact hn1
 intro next1 _ _
 try dsimp only
 refine bf (fun h=>absurd h (Int.lt_irrefl _)) (fun _=>?_)
 refine uq (fun k=>mtB N fun i j=>fb from_ to k.toNat i j) (n:=N) (by omega) rfl ?_ ?_
 ·intro k next2 k0 k1 hn2 _ _
  try dsimp only at hn2 ⊢
  refine bf (fun _=>?_) (fun h=>absurd (by rw [sb];exact k1) h)
  refine uq (fun i=>mtB N fun x y=>if x < i then fb from_ to (k+1).toNat x y else fb from_ to k.toNat x y) (n:=N) (by omega) (adn fun x y x0 _ _ _=>by rw [if_neg (by omega)]) ?_ ?_
  ·intro i next3 i0 i1 hn3 _ _
   try dsimp only at hn3 ⊢
   refine bf (fun _=>?_) (fun h=>absurd (by rw [sb];exact i1) h)
   refine uq (fun j=>mtB N fun x y=>if x < i\/x=i/\y < j then fb from_ to (k+1).toNat x y else fb from_ to k.toNat x y) (n:=N) (by omega) (adn fun x y x0 _ y0 _=>by
    by_cases h:x < i
    ·rw [if_pos h,if_pos (.inl h)]
    ·rw [if_neg h,if_neg (by omega)]) ?_ ?_
   ·intro j next4 j0 j1 hn4 _ _
    try dsimp only at hn4 ⊢
    have r1:∀ x:Int,0<=x->x < N->((mtB N fun x y=>if x < i\/x=i/\y < j then fb from_ to (k+1).toNat x y else fb from_ to k.toNat x y).getD x.toNat []).length=N:=fun x x0 x1=>by rw [alw x0 x1,c6]
    have g1:=@ap9 N (fun x y=>if x < i\/x=i/\y < j then fb from_ to (k+1).toNat x y else fb from_ to k.toNat x y) i j i0 i1 j0 j1
    have g2:=@ap9 N (fun x y=>if x < i\/x=i/\y < j then fb from_ to (k+1).toNat x y else fb from_ to k.toNat x y) i k i0 i1 k0 k1
    have g3:=@ap9 N (fun x y=>if x < i\/x=i/\y < j then fb from_ to (k+1).toNat x y else fb from_ to k.toNat x y) k j k0 k1 j0 j1
    rw [if_neg (by omega)]at g1
    have g2':(if i < i\/i=i/\k < j then fb from_ to (k+1).toNat i k else fb from_ to k.toNat i k)=fb from_ to k.toNat i k:=by rw [bqj k0];split <;> rfl
    have g3':(if k < i\/k=i/\j < j then fb from_ to (k+1).toNat k j else fb from_ to k.toNat k j)=fb from_ to k.toNat k j:=by rw [bqn k0];split <;> rfl
    rw [g2']at g2
    rw [g3']at g3
    refine bf (fun _=>⟨i0,by rw [sb];exact i1,i0,by rw [sb];exact i1,j0,by rw [r1 i i0 i1];exact j1,fun _=>⟨by rw [sb];exact i1,i0⟩,fun _=>⟨by rw [r1 i i0 i1];exact k1,k0⟩,fun _=>⟨by rw [sb];exact k1,k0⟩,fun _=>⟨by rw [r1 k k0 k1];exact j1,j0⟩,j0,by rw [r1 i i0 i1];exact j1,by rw [au];(try dsimp only);omega,?_⟩) (fun h=>absurd (by rw [sb];exact j1) h)
    rw [g1,g2,g3,← bhd k0,bfp i0 i1 j0 j1]
    have e:(mtB N fun x y=>if x=i/\y=j then fb from_ to (k+1).toNat i j else if x < i\/x=i/\y < j then fb from_ to (k+1).toNat x y else fb from_ to k.toNat x y)=mtB N (fun x y=>if x < i\/x=i/\y < j+1 then fb from_ to (k+1).toNat x y else fb from_ to k.toNat x y):=by
     refine adn fun x y _ _ _ _=>?_
     by_cases h:x=i/\y=j
     ·rw [if_pos h,if_pos (by omega),h.1,h.2]
     ·rw [if_neg h]
      by_cases h2:x < i\/x=i/\y < j
      ·rw [if_pos h2,if_pos (by omega)]
      ·rw [if_neg h2,if_neg (by omega)]
    rw [e];exact hn4
   ·intro next4 _ _
    try dsimp only
    refine bf (fun h=>absurd h (by rw [sb];omega)) (fun _=>⟨by rw [au];(try dsimp only);omega,?_⟩)
    have e:(mtB N fun x y=>if x < i\/x=i/\y < (N:Int)then fb from_ to (k+1).toNat x y else fb from_ to k.toNat x y)=mtB N (fun x y=>if x < i+1 then fb from_ to (k+1).toNat x y else fb from_ to k.toNat x y):=by
     refine adn fun x y _ _ _ y1=>?_
     by_cases h:x < i+1
     ·rw [if_pos h,if_pos (by omega)]
     ·rw [if_neg h,if_neg (by omega)]
    rw [e];exact hn3
  ·intro next3 _ _
   try dsimp only
   refine bf (fun h=>absurd h (by rw [sb];omega)) (fun _=>⟨by rw [au];(try dsimp only);omega,?_⟩)
   have e:(mtB N fun x y=>if x < (N:Int)then fb from_ to (k+1).toNat x y else fb from_ to k.toNat x y)=mtB N (fun x y=>fb from_ to (k+1).toNat x y):=adn fun x y _ x1 _ _=>by rw [if_pos x1]
   rw [e];exact hn2
 intro next2 _ _
 try dsimp only
 refine bf (fun h=>absurd h (by rw [sb];omega)) (fun _=>?_)
 refine bkh N (fun i=>fb from_ to N i i) ?_ ?_
 ·intro i next3 i0 i1 ht hf _
  try dsimp only
  have g:=@ap9 N (fun i j=>fb from_ to ((N:Int)).toNat i j) i i i0 i1 i0 i1
  refine bf (fun _=>⟨i0,by rw [sb];exact i1,i0,by rw [alw i0 i1,c6];exact i1,?_⟩) (fun h=>absurd (by rw [sb];exact i1) h)
  rw [g]
  refine be (fun hx=>?_) (fun hx=>⟨by rw [au];(try dsimp only);omega,hf hx⟩)
  simp only [kt,hgoal,ht hx]
 ·intro next3 he _
  try dsimp only
  refine bf (fun h=>absurd h (by rw [sb];omega)) (fun _=>?_)
  simp only [kt,hgoal,he]
theorem asy:dg Try.prog 85 kt:=
 d7 (Φ:=lkp []) ba bo (by kernel_rfl) (fn:=Try.f85) (c:=aj Try.f85) (by kernel_rfl) (by kernel_rfl) (by kernel_rfl) kt rfl aii (aw [(21,30),(10,11)]) (by kernel_rfl) (by kernel_rfl) auc (by decide) (fun x K=>aaj x.1 x.2.1 x.2.2.1 K) avo (fun x h1 h2=>au1 x.1 x.2.1 x.2.2.1 h1 h2)
def kf:List Int->List Int->Int
 | [],[]=>0
 | [],_::_=>-1
 | _::_,[]=>1
 | x::a,y::b=>if x=y then kf a b else if x < y then -1 else 1
theorem bc9 {a b:List Int}:kf a b=0<->a=b:=by
 induction a generalizing b with
 | nil=>cases b <;> simp [kf]
 | cons x a ih=>cases b with
  | nil=>simp [kf]
  | cons y b=>
   simp only [kf,List.cons.injEq]
   by_cases h:x=y
   ·rw [if_pos h,ih];simp [h]
   ·rw [if_neg h]
    split <;> simp [h]
def gv:Ct:=⟨[(.sl (.int .i64)),(.sl (.int .i64))],[false,false],fun x=>[],[(false,(.fz (.int .i64)))],fun x=>(kf x.1 x.2.1,()),false,none⟩
def akb:Ann:=(.s .n (.s (.s .n (.l [(8,(.d (.int .i64)))] [] [0,1,7] .n)) .n))
def aa5 (a:List Int) (b:List Int) (K:Int×Unit->Prop):Prop:=(bu (S:=brl) (fun s=>(fun next=>((inK .i64 s.1.1)->(cnd (decide (s.1.1 < ((a.length:Nat):Int))) (cnd (s.1.1 == ((b.length:Nat):Int)) (K (1,())) ((0<=s.1.1)/\((s.1.1 < ((a.length:Nat):Int))/\((0<=s.1.1)/\((s.1.1 < ((b.length:Nat):Int))/\(cnd ((List.getD a s.1.1.toNat 0) != (List.getD b s.1.1.toNat 0)) ((0<=s.1.1)/\((s.1.1 < ((a.length:Nat):Int))/\((0<=s.1.1)/\((s.1.1 < ((b.length:Nat):Int))/\(cnd (decide ((List.getD a s.1.1.toNat 0) < (List.getD b s.1.1.toNat 0))) (K ((-1),())) (K (1,()))))))) ((inK .i64 (s.1.1+1))/\(next (((s.1.1+1),()),()))))))))) (cnd (decide (((a.length:Nat):Int) < ((b.length:Nat):Int))) (K ((-1),())) (K (0,()))))))) ((0,()),()))
theorem ax9 (x:bi gv.args) (K:Int×Unit->Prop):evF tab (lkp []) (aw [(6,9),(7,9)]) Try.f119 (aj Try.f119) akb gv x K=aa5 x.1 x.2.1 K:=by kernel_rfl
theorem aye:okC Try.f119.ntmps (aw [(6,9),(7,9)]) (aj Try.f119)=true:=by kernel_rfl
theorem axa (a:List Int) (b:List Int) (hok:ae (okL gv.args (a,b,()))) (hpre:ae (gv.pre (a,b,()))):aa5 a b (fun r=>r=gv.res (a,b,())):=by
 simp only [gv,okL,T.oks,T.ok,ap,ae,true_and,and_true,implies_true]at hok hpre
 try dsimp only [T.den]at hok
 try dsimp only [T.den]at hpre
 unfold aa5
 have ha:a.length<=140737488355328:=by simp only [fy]at hok;omega
 clear hok
 refine nh (n:=a.length) (fun i=>i<=b.length/\kf a b=kf (a.drop i.toNat) (b.drop i.toNat)) (by omega) ⟨by omega,by simp⟩ ?_ ?_
 ·intro i next i0 i1 hP hn hin
  obtain ⟨hb,hP⟩:=hP
  rw [aay a 0 i0 i1]at hP
  refine bf (fun _=>be (fun h=>?_) (fun h=>?_)) (fun h=>absurd i1 h)
  ·rw [beq_iff_eq]at h
   rw [acf b (by dsimp only at h;omega)]at hP
   simp only [gv,hP,kf]
  ·rw [beq_eq_false_iff_ne]at h
   try dsimp only at h ⊢
   rw [aay b 0 i0 (by omega)]at hP
   simp only [kf]at hP
   have hiK:inK .i64 (i+1):=by rw [au];(try dsimp only);omega
   refine ⟨i0,i1,i0,by omega,be (fun h1=>?_) (fun h1=>?_)⟩
   ·rw [bne_iff_ne]at h1
    rw [if_neg h1]at hP
    refine ⟨i0,i1,i0,by omega,bf (fun h2=>?_) (fun h2=>?_)⟩
    ·rw [if_pos h2]at hP;simp only [gv,hP]
    ·rw [if_neg h2]at hP;simp only [gv,hP]
   ·rw [bne_eq_false_iff_eq]at h1
    rw [if_pos h1]at hP
    exact ⟨hiK,hn ⟨by omega,hP⟩⟩
 ·intro next hP hin
  obtain ⟨hb,hP⟩:=hP
  rw [acf a (Int.le_refl _)]at hP
  refine bf (fun h=>absurd h (by dsimp only;omega)) (fun _=>bf (fun h=>?_) (fun h=>?_))
  ·rw [aay b 0 (by omega) h]at hP
   simp only [gv,hP,kf]
  ·rw [acf b (by omega)]at hP
   simp only [gv,hP,kf]
theorem aka:dg Try.prog 119 gv:=
 d7 (Φ:=lkp []) ba bo (by kernel_rfl) (fn:=Try.f119) (c:=aj Try.f119) (by kernel_rfl) (by kernel_rfl) (by kernel_rfl) gv rfl akb (aw [(6,9),(7,9)]) (by kernel_rfl) (by kernel_rfl) aye (by decide) (fun x K=>aa5 x.1 x.2.1 K) ax9 (fun x h1 h2=>axa x.1 x.2.1 h1 h2)
def amt (p:eq):Prop:=(0<=p.1.1/\p.1.1<=8)/\0<=p.1.2/\p.1.2<=8
def se (a b:eq):Int:=if a.1.1=b.1.1 then (if a.1.2=b.1.2 then kf a.2 b.2 else a.1.2 - b.1.2)else a.1.1 - b.1.1
def mm:Ct:=⟨[sv,sv],[true,true],fun x=>[amt x.1,amt x.2.1],[(false,(.fz (.int .i64)))],fun x=>(se x.1 x.2.1,()),false,none⟩
def aab (a:eq) (b:eq) (K:Int×Unit->Prop):Prop:=(cnd (a.1.1 != b.1.1) ((inK .i64 (a.1.1 - b.1.1))/\(K ((a.1.1 - b.1.1),()))) (cnd (a.1.2 != b.1.2) ((inK .i64 (a.1.2 - b.1.2))/\(K ((a.1.2 - b.1.2),()))) (K ((kf a.2 b.2),()))))
theorem at9 (x:bi mm.args) (K:Int×Unit->Prop):evF tab (lkp [(119,gv)]) (aw []) Try.f125 (aj Try.f125) .n mm x K=aab x.1 x.2.1 K:=by kernel_rfl
theorem aul:okC Try.f125.ntmps (aw []) (aj Try.f125)=true:=by kernel_rfl
theorem aup (a:eq) (b:eq) (hok:ae (okL mm.args (a,b,()))) (hpre:ae (mm.pre (a,b,()))):aab a b (fun r=>r=mm.res (a,b,())):=by
 simp only [mm,okL,T.oks,T.ok,ap,ae,true_and,and_true,implies_true]at hok hpre
 try dsimp only [T.den]at hok
 try dsimp only [T.den]at hpre
 unfold aab
 obtain ⟨ha,hb⟩:=hpre
 have h1:=ha.1;have h2:=ha.2;have h3:=hb.1;have h4:=hb.2
 simp only [mm,se]
 refine be (fun h=>?_) (fun h=>?_)
 ·rw [bne_iff_ne]at h;rw [if_neg h];exact ⟨by rw [au];(try dsimp only);omega,rfl⟩
 ·rw [if_pos (bne_eq_false_iff_eq.1 h)]
  refine be (fun h=>?_) (fun h=>?_)
  ·rw [bne_iff_ne]at h;rw [if_neg h];exact ⟨by rw [au];(try dsimp only);omega,rfl⟩
  ·rw [if_pos (bne_eq_false_iff_eq.1 h)]
theorem ar7:dg Try.prog 125 mm:=
 d7 (Φ:=lkp [(119,gv)]) (am aka ba) bo (by kernel_rfl) (fn:=Try.f125) (c:=aj Try.f125) (by kernel_rfl) (by kernel_rfl) (by kernel_rfl) mm rfl .n (aw []) (by kernel_rfl) (by kernel_rfl) aul (by decide) (fun x K=>aab x.1 x.2.1 K) at9 (fun x h1 h2=>aup x.1 x.2.1 h1 h2)
def al3 (x:List eq):List eq:=afm se x
structure SoPR (x:List eq):Prop where
 e:∀ p ∈ x,amt p
def wu:Wt:=⟨(.sl (.fz sv)),[(.fn 125 .u)],[false],fun x y=>[SoPR x],fun x y=>al3 x,[],fun x y=>(())⟩
def pi:Ct:=ac8 wu
def ay5:Go.Shelf.Ren:=⟨fun | 6=>124 | 15=>143 | 14=>142 | 28=>164 | 29=>165 | 20=>156 | 21=>157 | 22=>158 | 23=>159 | 24=>160 | 25=>161 | 26=>162 | 27=>163 | 46=>169 | 47=>170 | 48=>171 | 49=>172 | 50=>173 | 57=>174 | n=>n,fun | 22=>112 | 24=>118 | 25=>150 | 3=>3 | 39=>71 | 0=>0 | 53=>186 | 55=>36 | 4=>4 | 46=>179 | 45=>178 | 50=>183 | 5=>5 | 9=>9 | 66=>189 | 70=>193 | 76=>195 | 77=>196 | n=>n,fun | n=>n⟩
theorem bqv:Go.Proofs.SlLaysF0.n6 Try.prog ay5:={
 mixed:=by kernel_rfl
 f6:=⟨Try.f124.name,by decide,Try.func124.trans (congrArg some (by kernel_rfl))⟩
 f14:=⟨Try.f142.name,by decide,Try.func142.trans (congrArg some (by kernel_rfl))⟩
 f15:=Try.func143.trans (congrArg some (by kernel_rfl))
 f20:=⟨Try.f156.name,by decide,Try.func156.trans (congrArg some (by kernel_rfl))⟩
 f21:=⟨Try.f157.name,by decide,Try.func157.trans (congrArg some (by kernel_rfl))⟩
 f22:=⟨Try.f158.name,by decide,Try.func158.trans (congrArg some (by kernel_rfl))⟩
 f23:=⟨Try.f159.name,by decide,Try.func159.trans (congrArg some (by kernel_rfl))⟩
 f24:=⟨Try.f160.name,by decide,Try.func160.trans (congrArg some (by kernel_rfl))⟩
 f25:=⟨Try.f161.name,by decide,Try.func161.trans (congrArg some (by kernel_rfl))⟩
 f26:=⟨Try.f162.name,by decide,Try.func162.trans (congrArg some (by kernel_rfl))⟩
 f27:=⟨Try.f163.name,by decide,Try.func163.trans (congrArg some (by kernel_rfl))⟩
 f28:=Try.func164.trans (congrArg some (by kernel_rfl))
 f29:=Try.func165.trans (congrArg some (by kernel_rfl))
 f46:=⟨Try.f169.name,by decide,Try.func169.trans (congrArg some (by kernel_rfl))⟩
 f47:=Try.func170.trans (congrArg some (by kernel_rfl))
 f48:=Try.func171.trans (congrArg some (by kernel_rfl))
 f49:=⟨Try.f172.name,by decide,Try.func172.trans (congrArg some (by kernel_rfl))⟩
 f50:=⟨Try.f173.name,by decide,Try.func173.trans (congrArg some (by kernel_rfl))⟩
 f57:=⟨Try.f174.name,by decide,Try.func174.trans (congrArg some (by kernel_rfl))⟩
 t0:=Try.underlying0
 a0:=Try.isAgg0
 z0:=Try.sizeOf0
 v0:=Try.zeroValue0
 t3:=Try.underlying3
 a3:=Try.isAgg3
 z3:=Try.sizeOf3
 v3:=Try.zeroValue3
 t4:=Try.underlying4
 a4:=Try.isAgg4
 z4:=Try.sizeOf4
 v4:=Try.zeroValue4
 t5:=Try.underlying5
 a5:=Try.isAgg5
 z5:=Try.sizeOf5
 v5:=Try.zeroValue5
 t9:=Try.underlying9
 a9:=Try.isAgg9
 z9:=Try.sizeOf9
 v9:=Try.zeroValue9
 t22:=Try.underlying112
 a22:=Try.isAgg112
 z22:=Try.sizeOf112
 v22:=Try.zeroValue112
 t25:=Try.underlying150
 a25:=Try.isAgg150
 z25:=Try.sizeOf150
 v25:=Try.zeroValue150
 t39:=Try.underlying71
 a39:=Try.isAgg71
 z39:=Try.sizeOf71
 v39:=Try.zeroValue71
 t45:=Try.underlying178
 a45:=Try.isAgg178
 z45:=Try.sizeOf178
 v45:=Try.zeroValue178
 t46:=Try.underlying179
 a46:=Try.isAgg179
 z46:=Try.sizeOf179
 v46:=Try.zeroValue179
 t50:=Try.underlying183
 a50:=Try.isAgg183
 z50:=Try.sizeOf183
 v50:=Try.zeroValue183
 t53:=Try.underlying186
 a53:=Try.isAgg186
 z53:=Try.sizeOf186
 v53:=Try.zeroValue186
 t55:=Try.underlying36
 a55:=Try.isAgg36
 z55:=Try.sizeOf36
 v55:=Try.zeroValue36
 t66:=Try.underlying189
 a66:=Try.isAgg189
 z66:=Try.sizeOf189
 v66:=Try.zeroValue189
 t70:=Try.underlying193
 a70:=Try.isAgg193
 z70:=Try.sizeOf193
 v70:=Try.zeroValue193
 t76:=Try.underlying195
 a76:=Try.isAgg195
 z76:=Try.sizeOf195
 v76:=Try.zeroValue195
 t77:=Try.underlying196
 a77:=Try.isAgg196
 z77:=Try.sizeOf196
 v77:=Try.zeroValue196 }
theorem bdb:∀ a b:List Int,kf b a=- kf a b
 | [],[]=>rfl
 | [],_::_=>rfl
 | _::_,[]=>rfl
 | x::a,y::b=>by
  have ih:=bdb a b
  simp only [kf]
  by_cases h:x=y
  ·rw [if_pos h,if_pos h.symm];exact ih
  ·rw [if_neg h,if_neg (Ne.symm h)]
   by_cases h2:x < y
   ·rw [if_pos h2,if_neg (by omega)];rfl
   ·rw [if_neg h2,if_pos (by omega)]
theorem bgg:∀ a b c:List Int,kf a b < 0->kf b c < 0->kf a c < 0
 | [],[],_,h,_=>by simp [kf]at h
 | [],_::_,[],_,h=>by simp [kf]at h
 | [],_::_,_::_,_,_=>by simp [kf]
 | _::_,[],_,h,_=>by simp [kf]at h
 | _::_,_::_,[],_,h=>by simp [kf]at h
 | x::a,y::b,z::c,h,g=>by
  have ih:=bgg a b c
  simp only [kf]at h g ⊢
  by_cases h1:x=y
  ·by_cases h2:y=z
   ·rw [if_pos h1]at h;rw [if_pos h2]at g;rw [if_pos (h1.trans h2)];exact ih h g
   ·rw [if_neg h2]at g;rw [h1,if_neg h2];exact g
  ·rw [if_neg h1]at h
   have hxy:x < y:=by by_cases h3:x < y;exact h3;rw [if_neg h3]at h;omega
   by_cases h2:y=z
   ·rw [← h2,if_neg h1,if_pos hxy];omega
   ·rw [if_neg h2]at g
    have hyz:y < z:=by by_cases h3:y < z;exact h3;rw [if_neg h3]at g;omega
    rw [if_neg (by omega),if_pos (by omega)];omega
theorem bg6 {a b:eq}:se a b < 0<->a.1.1 < b.1.1\/(a.1.1=b.1.1/\(a.1.2 < b.1.2\/(a.1.2=b.1.2/\kf a.2 b.2 < 0))):=by
 unfold se
 split
 ·split <;> omega
 ·omega
theorem bnh (a:eq):¬ se a a < 0:=by
 rw [bg6,bc9.2 rfl];omega
theorem bh1 {a b c:eq} (h:se a b < 0) (g:se b c < 0):se a c < 0:=by
 rw [bg6]at h g ⊢
 have:=bgg a.2 b.2 c.2
 omega
theorem bho {a b:eq} (h:¬ se a b < 0) (g:¬ se b a < 0):a=b:=by
 rw [bg6]at h g
 have h1:=bdb a.2 b.2
 have h2:kf a.2 b.2=0:=by omega
 have h3:=bc9.1 h2
 obtain ⟨⟨a1,a2⟩,a3⟩:=a
 obtain ⟨⟨b1,b2⟩,b3⟩:=b
 simp only at h g h1 h2 h3
 have e1:a1=b1:=by omega
 have e2:a2=b2:=by omega
 rw [e1,e2,h3]
theorem bhg (x:List eq):SwoR se x:={
 irrefl:=fun a _=>bnh a
 trans:=fun a _ b _ c _ h g=>bh1 h g
 ntrans:=fun a _ b _ c _ h g hh=>by
  by_cases h1:se b a < 0
  ·exact g (bh1 h1 hh)
  ·have e:=bho h h1
   rw [e]at hh;exact g hh }
theorem ams (x:List eq):(al3 x).Perm x:=biw (bhg x)
theorem bdl (x:List eq):(al3 x).Pairwise fun a b=>¬ se b a < 0:=bd7 (bhg x)
theorem ws:dg Try.prog 124 pi:=by
 have h:=bn6 (P:=Try.prog) (ρ:=ay5) bqv (.fz sv) Try.isAgg118 Try.sizeOf118 (akw (fn:=Try.f124) (c:=aj Try.f124) (by kernel_rfl) (by kernel_rfl) (by kernel_rfl)) (g:=125) (cs:=[]) (pre:=fun x=>[amt x.1,amt x.2.1]) (res:=fun x=>(se x.1 x.2.1,())) (fun c hc=>by cases hc) ar7
 refine ⟨h.1,fun A w u x us y S a b c d e=>h.2 A w u x us y S a b c d ?_⟩
 have e:SoPR x:=e.1
 exact ⟨fun p hp q hq=>⟨e.e p hp,e.e q hq,trivial⟩,bhg x,trivial⟩
def ou:Ct:=⟨[(.sl (.int .i64))],[false],fun x=>[x.1.length<=1099511627776],[(false,(.sl (.fz (.int .i64))))],fun x=>(x.1,()),false,none⟩
def adv (list:List Int) (K:(List Int)×Unit->Prop):Prop:=((fg 0 list.length 8)/\(K (list,())))
theorem bdh (x:bi ou.args) (K:(List Int)×Unit->Prop):evF tab (lkp []) (aw []) Try.f69 (aj Try.f69) .n ou x K=adv x.1 K:=by kernel_rfl
theorem bdx:okC Try.f69.ntmps (aw []) (aj Try.f69)=true:=by kernel_rfl
theorem bcc (list:List Int) (hok:ae (okL ou.args (list,()))) (hpre:ae (ou.pre (list,()))):adv list (fun r=>r=ou.res (list,())):=by
 simp only [ou,okL,T.oks,T.ok,ap,ae,true_and,and_true,implies_true]at hok hpre
 try dsimp only [T.den]at hok
 try dsimp only [T.den]at hpre
 unfold adv
 have hl:list.length<=1099511627776:=hpre
 exact ⟨cw (by omega),rfl⟩
theorem aom:dg Try.prog 69 ou:=
 d7 (Φ:=lkp []) ba bo (by kernel_rfl) (fn:=Try.f69) (c:=aj Try.f69) (by kernel_rfl) (by kernel_rfl) (by kernel_rfl) ou rfl .n (aw []) (by kernel_rfl) (by kernel_rfl) bdx (by decide) (fun x K=>adv x.1 K) bdh (fun x h1 h2=>bcc x.1 h1 h2)
end
end Go.Bm
