/- What the functions that FnLimitsTerminal reaches give: for each its contract, what it asks, and the proof. No condition. -/
import Derived.Test.YtimfdllgcnabjaaGreatFnLimitsTerminalFnsB
set_option linter.unusedVariables false
set_option linter.unusedSimpArgs false
namespace Go.Bm
open Go.Proofs
set_option maxRecDepth 100000
set_option maxHeartbeats 1000000
abbrev a5b:=@Int.mul_nonneg
abbrev a5h:=@List.length_reverse
noncomputable section
def lk:Ct:=⟨[wm,wm],[false,false],fun x=>[],[(false,kf)],fun x=>(eqR wm x.1 x.2.1,()),false,none⟩
def aw6:Ann:=(.s .n (.s .n (.s (.s .n (.l ais [] [0,1] .n)) .n)))
def afl(a:List (List Int))(b:List (List Int))(K:Bool×Unit->Prop):Prop:=cnd ((a.length:Int) != (b.length:Int)) (K (false,())) (bn (S:=ce7) (fun c d=>let e:=c.1.1;Iq e<|cnd (decide (e<(a.length:Int))) (Ix e a.length<|Ix e b.length<|cnd (!xc (a.getD e.toNat []) (b.getD e.toNat [])) (K (false,())) (Ik (e+1)<|d ((e+1,()),()))) (K (true,()))) ((0,()),()))
theorem ay4(a:List (List Int))(b:List (List Int))(hok:ab (okL lk.args (a,b,())))(hpre:ab (lk.pre (a,b,()))):afl a b (fun r=>r=lk.res (a,b,())):=by
 simp only[lk,okL,T.oks,T.ok,ap,ab,a0f,a0c,a0g]at hok hpre
 try dsimp only[T.den]at hok hpre
 delta afl Ik Iq Ix
 dsimp -proj -eta only;have h1:a.length<=140737488355328:=by simp only[eh]at hok;omega
 clear hok hpre;refine ba (fun hx=>?_) (fun hx=>?_)
 ·have hne:(a.length:Int)≠b.length:=by simpa using hx
  have:eqR wm a b=false:=by
   cases h:eqR wm a b with
   |false=>rfl
   |true=>rw[abf.1 h]at hne;exact absurd rfl hne
  simp only[lk,this]
 have he:(a.length:Int)=b.length:=by simpa using hx
 refine jc (n:=a.length) (fun i=>∀k:Int,0<=k->k<i->a.getD k.toNat []=b.getD k.toNat []) (by omega) (by intro k h0 h1;omega) ?_ ?_
 ·intro i next i0 i1 hP hn _
  try dsimp only
  refine bd (fun _=>⟨i0,i1,i0,by omega,ba (fun hd=>?_) (fun hd=>⟨by rw[au];(try dsimp only);omega,hn fun k k0 k1=>?_⟩)⟩) (fun h=>absurd i1 h)
  ·have hne:a.getD i.toNat []≠b.getD i.toNat []:=by unfold xc at hd;simpa using hd
   have:eqR wm a b=false:=by
    cases h:eqR wm a b with
    |false=>rfl
    |true=>rw[abf.1 h]at hne;exact absurd rfl hne
   simp only[lk,this]
  ·by_cases hk:k=i
   ·subst hk;unfold xc at hd;simpa using hd
   ·exact hP k k0 (by omega)
 ·intro next hP _
  refine bd (fun h=>absurd h (a1b _)) (fun _=>?_);have:a=b:=by refine List.ext_getElem (by omega) fun k k1 k2=>?_;have:=hP k (by omega) (by omega);rw[a0l,a0l,a0y,a0p k1,a0p k2]at this;exact this
  have e:eqR wm a b=true:=by rw[this];exact bjz _
  simp only[lk,e]
theorem axb:bw Tryz.prog 53 lk:=ctb (ae afb az) bg 53 Tryz.f53 lk aw6 [(6,508)] (fun x K=>afl x.1 x.2.1 K) (fun x h1 h2=>ay4 x.1 x.2.1 h1 h2)
def jz:Ct:=⟨[bp,bp],[true,true],fun x=>[],[(false,kf)],fun x=>(eqR bp x.1 x.2.1,()),false,none⟩
def bmd:FuncId->Option Ct:=lkp [(10,l9),(53,lk)]
def x8(a b:aa)(K:Bool×Unit->Prop):Prop:=K (a.1==b.1&&xc a.2.1 b.2.1&&xc a.2.2.1 b.2.2.1&&xc a.2.2.2.1 b.2.2.2.1&&eqR wm a.2.2.2.2 b.2.2.2.2,())
theorem apf(a b:aa)(hok:ab (okL jz.args (a,b,())))(hpre:ab (jz.pre (a,b,()))):x8 a b (fun r=>r=jz.res (a,b,())):=by
 simp only[jz,okL,T.oks,T.ok,ap,ab,a0f,a0c,a0g]at hok hpre
 try dsimp only[T.den]at hok hpre
 unfold x8;simp only[jz]
 have h:((((((a.1==b.1)&&xc a.2.1 b.2.1)&&xc a.2.2.1 b.2.2.1)&&xc a.2.2.2.1 b.2.2.2.1)&&eqR wm a.2.2.2.2 b.2.2.2.2))=eqR bp a b:=by
  rw[a3j];simp only[a0b,a0r,xc,a0w,abf];constructor
  ·rintro⟨⟨⟨⟨h1,h2⟩,h3⟩,h4⟩,h5⟩;exact a1h h1 (a1h h2 (a1h h3 (a1h h4 h5)))
  ·intro h;subst h;exact⟨⟨⟨⟨rfl,rfl⟩,rfl⟩,rfl⟩,rfl⟩
 rw[←h]
theorem anm:bw Tryz.prog 16 jz:=ctb (ae afb (ae axb az)) bg 16 Tryz.f16 jz .n [] (fun x K=>x8 x.1 x.2.1 K) (fun x h1 h2=>apf x.1 x.2.1 h1 h2)
def nk:Ct:=⟨[yg,yg],[true,true],fun x=>[],[(false,kf)],fun x=>(eqR yg x.1 x.2.1,()),false,none⟩
def ad3(a b:bo)(K:Bool×Unit->Prop):Prop:=K (a.1==b.1&&xc a.2 b.2,())
theorem awx(a b:bo)(hok:ab (okL nk.args (a,b,())))(hpre:ab (nk.pre (a,b,()))):ad3 a b (fun r=>r=nk.res (a,b,())):=by
 simp only[nk,okL,T.oks,T.ok,ap,ab,a0f,a0c,a0g]at hok hpre
 try dsimp only[T.den]at hok hpre
 unfold ad3;simp only[nk]
 have h:((a.1==b.1)&&xc a.2 b.2)=eqR yg a b:=by
  rw[a3j];simp only[a0b,a0r,xc,a0w,abf];constructor
  ·rintro⟨h1,h2⟩;exact a1h h1 h2
  ·intro h;subst h;exact⟨rfl,rfl⟩
 rw[←h]
theorem auc:bw Tryz.prog 21 nk:=ctb (ae afb az) bg 21 Tryz.f21 nk .n [] (fun x K=>ad3 x.1 x.2.1 K) (fun x h1 h2=>awx x.1 x.2.1 h1 h2)
def avh(d:am):List bo:=if d5 d=true then ad4 d else []
def bwu(d:am):Int:=if d5 d=true then ae8 d else 1
def nv:Ct:=⟨[jq],[true],fun x=>[],[(false,(.fz adh)),(false,kg)],fun x=>(avh x.1,bwu x.1,()),true,none⟩
def buw:FuncId->Option Ct:=lkp [(35,kz),(47,l6)]
def ago(d:am)(K:(List bo)×Int×Unit->Prop):Prop:=cnd (!d5 d) (K (([]:List ce5),1,())) (d5 d=true/\K (ad4 d,ae8 d,()))
theorem bas(d:am)(hok:ab (okL nv.args (d,())))(hpre:ab (nv.pre (d,()))):ago d (fun r=>r=nv.res (d,())):=by
 simp only[nv,okL,T.oks,T.ok,ap,ab,a0f,a0c,a0g]at hok hpre
 try dsimp only[T.den]at hok hpre
 unfold ago;refine ba (fun hx=>?_) (fun hx=>?_)
 ·have h:¬d5 d=true:=by simpa using hx
  simp only[nv,avh,bwu,ds h]
 ·have h:d5 d=true:=by simpa using hx
  refine⟨h,?_⟩;simp only[nv,avh,bwu,a0a h]
theorem ay7:bw Tryz.prog 18 nv:=ctb (ae aj9 (ae ag2 az)) bg 18 Tryz.f18 nv .n [] (fun x K=>ago x.1 K) (fun x h1 h2=>bas x.1 h1 h2)
def cn(s:ac):Prop:=ab (T.oks gz s)/\0<=s.2.1
theorem inKu{x:Int}:inK .u64 x<->0<=x/\x<=18446744073709551615:=by unfold inK;exact a17
theorem inK8{x:Int}:inK .u8 x<->0<=x/\x<=255:=by unfold inK;exact a17
theorem cc0(a:Int):0<=ats .u64 a 16777215/\ats .u64 a 16777215<=16777215:=by
 have h:((BitVec.ofInt IntKind.u64.bits a &&& BitVec.ofInt IntKind.u64.bits 16777215).toNat:Nat)<=16777215:=by rw[BitVec.toNat_and];exact a0z Nat.and_le_right (by decide)
 unfold ats;rw[apy (by rw[inKu];omega)];omega
theorem cc1{a:Int}(h:inK .u64 a):inK .u64 (ao6 .u64 a 33):=by
 rw[inKu]at h⊢;have e:ao6 .u64 a 33=a / 8589934592:=by show a.fdiv 8589934592=_;rw[Int.fdiv_eq_ediv_of_nonneg _ (by decide)]
 rw[e];omega
def g8:Wt:=⟨oc,[bc],[false],fun x y=>[0<=x.2.1],fun x _=>x,[(false,kg)],fun _ _=>dfR _,0⟩
def yx(s:ac)(n:Int)(z:ac)(r0:Int):Prop:=0<=z.2.1/\0<=r0/\(1<=n->r0<n)/\(n<1->r0=0)
def aok:Ann:=(.s .n (.s .n (.s .n (.s .n (.s (.s .n (.j [(0,(.ad 1000000 [.de])),(5,(.d bc))] [(1000000,yj)] [1] .n)) .n)))))
def ac0(s:ac)(n:Int)(K:ac->(Int×Unit)->Prop):Prop:=let e:=IntKind.wrap .i64 (s.1.getD s.2.1.toNat 0);let c:=IntKind.wrap .u64 (IntKind.wrap .u64 (s.2.2*6364136223846793005)+1442695040888963407);let d:=IntKind.wrap .i64 (ats .u64 (ao6 .u64 c 33) 16777215);cnd (decide (n<1)) (K s (0,())) ((0:Int)<=33/\inK .u64 (ao6 .u64 c 33)/\dk (S:=cge) (fun a=>Iq a.1.2.1<|Oa iq a.2.1.1<|Iq a.2.1.2.1<|inK .u64 a.2.1.2.2->n≠0/\(Ik (Int.tmod a.1.2.1 n)<|K a.2.1 (Int.tmod a.1.2.1 n,()))) (fun b=>cnd (decide (s.2.1<(s.1.length:Int))) (Ix s.2.1 s.1.length<|Ik (d+e)<|Ik (s.2.1+1)<|b (((),d+e,()),(s.1,s.2.1+1,c),())) (b (((),d,()),(s.1,s.2.1,c),()))))
theorem bem(s:ac)(n:Int)(hok:ab (g8.o.strip.oks s))(hok2:ab (okL g8.as (n,())))(hpre:ab (g8.pre s (n,()))):ac0 s n (fun z r=>yx s n z r.1):=by
 simp only[g8,O.strip,okL,T.oks,T.ok,ap,ab,a0f,a0c,a0g]at hok hok2 hpre
 try dsimp only[T.den]at hok
 try dsimp only[T.den]at hok2
 try dsimp only[T.den]at hpre
 delta ac0 yx Ik Iq Ix Oa
 dsimp -proj -eta only;obtain⟨⟨hc1,hc2⟩,ha,hh⟩:=hok;rw[eh]at hc1;generalize hx:IntKind.wrap .u64 (IntKind.wrap .u64 (s.2.2*6364136223846793005)+1442695040888963407)=x;have hxk:inK .u64 x:=by rw[←hx];exact ahe _ _
 have hm:=cc0 (ao6 .u64 x 33);generalize ats .u64 (ao6 .u64 x 33) 16777215=y at hm;refine bd (fun hn=>⟨hpre,a02 _,fun h=>by omega,fun _=>rfl⟩) (fun hn=>⟨by omega,cc1 hxk,?_⟩);rw[apy (show inK .i64 y by rw[au];(try dsimp only);omega)];refine cz (fun s1=>0<=s1.2.1.2.1/\0<=s1.1.2.1) (fun s1 hs _ _ _ _=>?_) (fun k hk=>bd (fun hc=>?_) (fun hc=>hk _ ⟨hpre,hm.1⟩))
 ·have h1:=Int.tmod_nonneg n hs.2;have h2:=Int.tmod_lt_of_pos s1.1.2.1 (show 0<n by omega);have hn2:=au.1 hok2;exact⟨by omega,by rw[au];(try dsimp only);omega,hs.1,h1,fun _=>h2,fun h=>by omega⟩
 ·have hb:=inK8.1 (hc2 _ (cp s.1 0 hpre hc));rw[apy (show inK .i64 (s.1.getD s.2.1.toNat 0) by rw[au];(try dsimp only);omega)];exact⟨hpre,hc,by rw[au];(try dsimp only);omega,by rw[au];(try dsimp only);omega,hk _ ⟨by dsimp only;omega,by dsimp only;omega⟩⟩
theorem adc(s:ac)(n:Int):∃q:ac×(Int×Unit),ab (g8.o.strip.oks s)->ab (okL g8.as (n,()))->ab (g8.pre s (n,()))->ac0 s n (fun z r=>z=q.1/\r=q.2)/\ab (g8.o.strip.oks q.1)/\ab (okR g8.rt q.2)/\yx s n q.1 q.2.1:=pkw az bg 65 Tryz.f65 g8 aok [(5,9),(6,12)] gz (fun x y K=>ac0 x y.1 K) (fun x y z r=>yx x y.1 z r.1) (fun x y h1 h2 h3=>bem x y.1 h1 h2 h3) s (n,())
def bm(s:ac)(n:Int):ac:=(adc s n).choose.1
def bf(s:ac)(n:Int):Int:=(adc s n).choose.2.1
theorem bc3(s:ac)(n:Int)(hok:ab (g8.o.strip.oks s))(hok2:ab (okL g8.as (n,())))(hpre:ab (g8.pre s (n,()))):ab (g8.o.strip.oks (bm s n))/\ab (okR g8.rt (bf s n,()))/\yx s n (bm s n) (bf s n):=((adc s n).choose_spec hok hok2 hpre).2
def an1:Wt:=⟨oc,[bc],[false],fun x y=>[0<=x.2.1],fun x y=>(bm x y.1),[(false,kg)],fun x y=>((bf x y.1),()),0⟩
def mt:Ct:=vr an1
theorem df:bw Tryz.prog 65 mt:=wtb az bg 65 Tryz.f65 an1 aok [(5,9),(6,12)] (fun x y h1 h2 h3=>Eq.mp (by kernel_rfl) ((adc x y.1).choose_spec h1 h2 h3).1)
theorem ko{s:ac}{n:Int}(h:cn s)(hn:inK .i64 n):cn (bm s n)/\0<=bf s n/\(1<=n->bf s n<n)/\(n<1->bf s n=0):=by obtain⟨h1,h2,h3,h4⟩:=bc3 s n h.1 ⟨hn,trivial⟩ ⟨h.2,trivial⟩;exact⟨⟨h1,h3⟩,h4⟩
def lg:Ct:=⟨[iq],[false],fun x=>[],[(false,oc)],fun _=>dfR _,true,none⟩
def y9(code:List Int)(r0:ac):Prop:=cn r0
def an3:Ann:=(.s .n (.s .n (.s (.s .n (.l [(3,(.ad 11 [.de])),(4,(.d bc))] [(11,yj)] [0] .n)) .n)))
def zf(code:List Int)(K:ac×Unit->Prop):Prop:=bn (S:=cge) (fun a b=>let c:=a.1.2.1;Iq c<|Oa iq a.2.1.1<|Iq a.2.1.2.1<|inK .u64 a.2.1.2.2->cnd (decide (c<(code.length:Int))&&decide (c<4096)) (Ix c code.length<|Ik (c+1)<|b (((),c+1,()),(a.2.1.1,a.2.1.2.1,IntKind.wrap .u64 (IntKind.wrap .u64 (IntKind.wrap .u64 (a.2.1.2.2*1099511628211)+IntKind.wrap .u64 (code.getD c.toNat 0))+7)),())) (K (a.2.1,()))) (((),0,()),(code,0,IntKind.wrap .u64 (7019+IntKind.wrap .u64 (code.length:Int))),())
theorem ben(code:List Int)(hok:ab (okL lg.args (code,())))(hpre:ab (lg.pre (code,()))):zf code (fun r=>y9 code r.1):=by
 simp only[lg,okL,T.oks,T.ok,ap,ab,a0f,a0c,a0g]at hok hpre
 try dsimp only[T.den]at hok hpre
 delta zf y9 Ik Iq Ix Oa
 dsimp -proj -eta only;have hl:=hok.1;rw[eh]at hl;refine bq (fun (s:cge)=>0<=s.1.2.1/\s.1.2.1<=code.length/\s.2.1.1=code/\s.2.1.2.1=0/\inK .u64 s.2.1.2.2) (fun (s:cge)=>(code.length-s.1.2.1).toNat) ?_ ⟨by simp,by simp,rfl,rfl,ahe _ _⟩;rintro⟨⟨_,i,_⟩,⟨c,a,h⟩,_⟩ next ⟨h0,h1,h2,h3,h4⟩ hn _ _ _ _
 try dsimp only at h0 h1 h2 h3 h4 hn⊢
 subst h2;subst h3;refine ba (fun hc=>?_) (fun _=>⟨?_,a02 _⟩)
 ·simp only[a0b,a0w]at hc;exact⟨h0,hc.1,by rw[au];(try dsimp only);omega,hn _ ⟨by dsimp only;omega,by dsimp only;omega,rfl,rfl,ahe _ _⟩ (by first|omega|(dsimp only;omega))⟩
 ·simp only[T.oks,T.ok,ap,ab,a0c];exact⟨hok,by rw[au];(try dsimp only);omega,h4⟩
theorem aic(code:List Int):∃q:ac×Unit,ab (okL lg.args (code,()))->ab (lg.pre (code,()))->zf code (fun r=>r=q)/\ab (okR lg.rt q)/\y9 code q.1:=pkb az bg 32 Tryz.f32 lg an3 [(5,13)] (fun x K=>zf x.1 K) (fun x r=>y9 x.1 r.1) (fun x h1 h2=>ben x.1 h1 h2) (code,())
def wi(code:List Int):ac:=(aic code).choose.1
theorem bdq(code:List Int)(hok:ab (okL lg.args (code,())))(hpre:ab (lg.pre (code,()))):ab (okR lg.rt (wi code,()))/\y9 code (wi code):=((aic code).choose_spec hok hpre).2
def aip:Ct:=⟨[iq],[false],fun x=>[],[(false,oc)],fun x=>((wi x.1),()),true,none⟩
theorem aob:bw Tryz.prog 32 aip:=ctb az bg 32 Tryz.f32 aip an3 [(5,13)] (fun x K=>zf x.1 K) (fun x h1 h2=>((aic x.1).choose_spec h1 h2).1)
theorem ccq{code:List Int}(h:ab ((T.sl (.int .u8)).oks code)):cn (wi code):=(bdq code (by simpa only [lg,okL,kv,ab,a0c]using h) trivial).2
def gk:Wt:=⟨oc,[ed],[false],fun x y=>[cn x,1<=y.1.length],fun x _=>x,[(false,kg)],fun _ _=>dfR _,0⟩
def zb(s:ac)(list:List Int)(z:ac)(r0:Int):Prop:=cn z/\r0∈list
def acx(s:ac)(list:List Int)(K:ac->(Int×Unit)->Prop):Prop:=let a:=bf s (list.length:Int);0<=s.2.1/\(Ix a list.length<|K (bm s (list.length:Int)) (list.getD a.toNat 0,()))
theorem bdr(s:ac)(list:List Int)(hok:ab (gk.o.strip.oks s))(hok2:ab (okL gk.as (list,())))(hpre:ab (gk.pre s (list,()))):acx s list (fun z r=>zb s list z r.1):=by
 simp only[gk,O.strip,okL,T.oks,T.ok,ap,ab,a0f,a0c,a0g]at hok hok2 hpre
 try dsimp only[T.den]at hok
 try dsimp only[T.den]at hok2
 try dsimp only[T.den]at hpre
 delta acx zb Ix
 dsimp -proj -eta only;obtain⟨hs,hl⟩:=hpre;have h0:=hok2.1;rw[eh]at h0;obtain⟨h1,h2,h3,_⟩:=ko (n:=list.length) hs (by rw[au];(try dsimp only);omega);have h4:=h3 (by omega);exact⟨hs.2,h2,h4,h1,cp list 0 h2 h4⟩
theorem adf(s:ac)(list:List Int):∃q:ac×(Int×Unit),ab (gk.o.strip.oks s)->ab (okL gk.as (list,()))->ab (gk.pre s (list,()))->acx s list (fun z r=>z=q.1/\r=q.2)/\ab (gk.o.strip.oks q.1)/\ab (okR gk.rt q.2)/\zb s list q.1 q.2.1:=pkw (ae df az) bg 125 Tryz.f125 gk .n [] gz (fun x y K=>acx x y.1 K) (fun x y z r=>zb x y.1 z r.1) (fun x y h1 h2 h3=>bdr x y.1 h1 h2 h3) s (list,())
def xn(s:ac)(list:List Int):ac:=(adf s list).choose.1
def wd(s:ac)(list:List Int):Int:=(adf s list).choose.2.1
theorem bfc(s:ac)(list:List Int)(hok:ab (gk.o.strip.oks s))(hok2:ab (okL gk.as (list,())))(hpre:ab (gk.pre s (list,()))):ab (gk.o.strip.oks (xn s list))/\ab (okR gk.rt (wd s list,()))/\zb s list (xn s list) (wd s list):=((adf s list).choose_spec hok hok2 hpre).2
def aoz:Wt:=⟨oc,[ed],[false],fun x y=>[cn x,1<=y.1.length],fun x y=>(xn x y.1),[(false,kg)],fun x y=>((wd x y.1),()),0⟩
def aqy:Ct:=vr aoz
theorem aoi:bw Tryz.prog 125 aqy:=wtb (ae df az) bg 125 Tryz.f125 aoz .n [] (fun x y h1 h2 h3=>Eq.mp (by kernel_rfl) ((adf x y.1).choose_spec h1 h2 h3).1)
theorem cbu{s:ac}{l:List Int}(h:cn s)(hl:ab ((T.sl bc).oks l))(hn:1<=l.length):cn (xn s l)/\wd s l∈l:=(bfc s l h.1 (by simpa only [gk,okL,kv,ab,a0c]using hl) ⟨h,hn,trivial⟩).2.2
theorem cdq{l:List Int}(h:l.length<=nb)(he:∀x∈l,inK .i64 x):ab ((T.sl bc).oks l):=by simp only[T.oks,T.ok,ap,ab,a0c];exact⟨h,he⟩
theorem cdf{c:aa}(h0:inK .i64 c.1)(h1:(T.sl bc).ok c.2.1)(h2:(T.sl bc).ok c.2.2.1)(h3:(T.sl bc).ok c.2.2.2.1)(h4:(T.sl ed).ok c.2.2.2.2):ab (T.oks bp c):=by simpa only [T.oks,T.ok,ap,ab,a0c]using⟨h0,h1,h2,h3,h4⟩
def ii:Wt:=⟨oc,[bp],[true],fun x y=>[cn x,CgR 1000000000 y.1],fun x _=>x,[(true,awj)],fun _ _=>dfR _,0⟩
def zd(s:ac)(c:aa)(z:ac)(r0:aa):Prop:=cn z/\r0.2.1.length<=c.2.1.length+1
def aog:Ann:=(.s .n (.s .n (.s .n (.s .n (.s (.s .n (.s .n (.j ak4 ars [] (.s .n (.s .n (.j ak4 ars [] (.s .n (.s .n (.j ak4 ars [] (.s (.s .n (.j ak4 bcb [] .n)) (.s (.s .n (.j bxb bcb [5,6,16] (.s .n (.s .n (.j bxb bcb [5,6,16] .n))))) (.j ak4 ars [] (.s (.s .n (.j ak4 bcb [] .n)) (.s .n (.j ak4 ars [] (.s (.s .n (.j ak4 bcb [] .n)) (.j [(0,(.ad 1000000 [.de])),(3,(.ad 3 [.de])),(4,(.ad 4 [.de])),(18,(.d .bool))] ars [6] (.s .n (.j ak4 ars [] .n))))))))))))))))))) .n)))))
def bxc:FuncId->Option Ct:=lkp [(65,mt),(125,aqy),(124,wy)]
def ac3(s:ac)(c:aa)(K:ac->(aa×Unit)->Prop):Prop:=let a4:=c.2.1.length;let a9:=decide (0<(a4:Int));let a2:=bf s (a4:Int);let a1:=bm s (a4:Int);let a5:=bf a1 8;let a3:=bm a1 8;OwcR c/\0<=s.2.1/\0<=a1.2.1/\dk (S:=ce8) (fun a=>Oa iq a.2.1.1<|Iq a.2.1.2.1<|inK .u64 a.2.1.2.2->(Oc a.2.2.1<|Oc a.2.2.2.1<|K a.2.1 (a.2.2.1,()))) (fun b=>cnd (a5==0) (Ik (c.1+1)<|cn a3/\1<=[c.1+1,-1,9].length/\b (((),(),(),()),xn a3 [c.1+1,-1,9],(wd a3 [c.1+1,-1,9],c.2),(0,[],[],[],[]),())) (dk (S:=ce8) (fun d=>Oa iq d.2.1.1<|Iq d.2.1.2.1<|inK .u64 d.2.1.2.2->(Oc d.2.2.1<|Oc d.2.2.2.1<|b (((),(),(),()),d.2.1,d.2.2.1,d.2.2.2.1,()))) (fun e=>cnd (a5==1) (c9 a4 [0].length 8/\e (((),(),(),()),a3,(c.1,c.2.1++[0],c.2.2),(0,[],[],[],[]),())) (dk (S:=ce8) (fun f=>Oa iq f.2.1.1<|Iq f.2.1.2.1<|inK .u64 f.2.1.2.2->(Oc f.2.2.1<|Oc f.2.2.2.1<|e (((),(),(),()),f.2.1,f.2.2.1,f.2.2.2.1,()))) (fun g=>cnd (a5==2) (dk (S:=ce8) (fun h=>Oa iq h.2.1.1<|Iq h.2.1.2.1<|inK .u64 h.2.1.2.2->(Oc h.2.2.1<|Oc h.2.2.2.1<|g (((),(),(),()),h.2.1,h.2.2.1,h.2.2.2.1,()))) (fun i=>cnd (decide (0<(c.2.2.2.1.length:Int))) (Ik ((a4:Int)+1)<|0<=a3.2.1/\(Ix 0 c.2.2.2.1.length<|i (((),(),(),()),bm a3 ((a4:Int)+1),(c.1,c.2.1,c.2.2.1,List.set c.2.2.2.1 (Int.toNat 0) (bf a3 ((a4:Int)+1)),c.2.2.2.2),(0,[],[],[],[]),()))) (i (((),(),(),()),a3,c,(0,[],[],[],[]),())))) (dk (S:=cfi) (fun j=>let b1:=j.2.2.2.1;let b0:=j.2.1;let b3:=bf b0 (a4:Int);let a7:=j.2.2.1;let b6:=a7.2.2;let b4:=b6.2.2.getD a2.toNat [];let a6:=bm b0 (a4:Int);let b2:=bf a6 ((a4:Int)+1);Oa iq b0.1<|Iq b0.2.1<|inK .u64 b0.2.2->(Oc a7<|Oc b1<|dk (S:=ce8) (fun l=>Oa iq l.2.1.1<|Iq l.2.1.2.1<|inK .u64 l.2.1.2.2->(Oc l.2.2.1<|Oc l.2.2.2.1<|g (((),(),(),()),l.2.1,l.2.2.1,l.2.2.2.1,()))) (fun m=>cnd j.1.2.2.2.1 (dk (S:=ce8) (fun n=>Oa iq n.2.1.1<|Iq n.2.1.2.1<|inK .u64 n.2.1.2.2->(Oc n.2.2.1<|Oc n.2.2.2.1<|m (((),(),(),()),n.2.1,n.2.2.1,n.2.2.2.1,()))) (fun o=>cnd a9 (Ix a2 b6.2.2.length<|Ik ((a4:Int)+1)<|0<=b0.2.1/\0<=a6.2.1/\(Ik (b2-1)<|Ix b3 b4.length<|o (((),(),(),()),bm a6 ((a4:Int)+1),(a7.1,a7.2.1,b6.1,b6.2.1,List.set b6.2.2 a2.toNat (List.set b4 b3.toNat (b2-1))),b1,()))) (o (((),(),(),()),b0,a7,b1,())))) (dk (S:=ce8) (fun p=>Oa iq p.2.1.1<|Iq p.2.1.2.1<|inK .u64 p.2.1.2.2->(Oc p.2.2.1<|Oc p.2.2.2.1<|m (((),(),(),()),p.2.1,p.2.2.1,p.2.2.2.1,()))) (fun q=>cnd (a5==6) (dk (S:=ce8) (fun r=>Oa iq r.2.1.1<|Iq r.2.1.2.1<|inK .u64 r.2.1.2.2->(Oc r.2.2.1<|Oc r.2.2.2.1<|q (((),(),(),()),r.2.1,r.2.2.1,r.2.2.2.1,()))) (fun t=>cnd a9 (Ik (a7.1+1)<|0<=b0.2.1/\(Ix a2 b6.1.length<|t (((),(),(),()),bm b0 (a7.1+1),(a7.1,a7.2.1,List.set b6.1 a2.toNat (bf b0 (a7.1+1)),b6.2),b1,()))) (t (((),(),(),()),b0,a7,b1,())))) (dk (S:=cfi) (fun u=>let a8:=u.2.2.1;let b5:=a8.2.2.2.2.getD a2.toNat [];Oa iq u.2.1.1<|Iq u.2.1.2.1<|inK .u64 u.2.1.2.2->(Oc a8<|Oc u.2.2.2.1<|dk (S:=ce8) (fun v=>Oa iq v.2.1.1<|Iq v.2.1.2.1<|inK .u64 v.2.1.2.2->(Oc v.2.2.1<|Oc v.2.2.2.1<|q (((),(),(),()),v.2.1,v.2.2.1,v.2.2.2.1,()))) (fun w=>cnd u.1.2.2.2.1 (Ix a2 a8.2.2.2.2.length<|(0:Int)<=1/\1<=(b5.length:Int)/\(Ix a2 a8.2.2.2.2.length<|w (((),(),(),()),u.2.1,(a8.1,a8.2.1,a8.2.2.1,a8.2.2.2.1,List.set a8.2.2.2.2 a2.toNat (List.drop (Int.toNat 1) b5)),u.2.2.2.1,()))) (w (((),(),(),()),u.2.1,a8,u.2.2.2.1,()))))) (fun x=>x (((),(),(),a9,()),b0,a7,b1,())))))))) (fun y=>cnd (a5==3) (y (((),(),(),a5==3,()),a3,c,(0,[],[],[],[]),())) (dk (S:=cfi) (fun z=>Oa iq z.2.1.1<|Iq z.2.1.2.1<|inK .u64 z.2.1.2.2->(Oc z.2.2.1<|Oc z.2.2.2.1<|y (((),(),(),z.1.2.2.2.1,()),z.2.1,z.2.2.1,z.2.2.2.1,()))) (fun a0=>cnd (a5==4) (a0 (((),(),(),a5==4,()),a3,c,(0,[],[],[],[]),())) (a0 (((),(),(),a5==5,()),a3,c,(0,[],[],[],[]),())))))))))))
theorem bfh(s:ac)(c:aa)(hok:ab (ii.o.strip.oks s))(hok2:ab (okL ii.as (c,())))(hpre:ab (ii.pre s (c,()))):ac3 s c (fun z r=>zd s c z r.1):=by
 simp only[ii,O.strip,okL,T.oks,T.ok,ap,ab,a0f,a0c,a0g]at hok hok2 hpre
 try dsimp only[T.den]at hok
 try dsimp only[T.den]at hok2
 try dsimp only[T.den]at hpre
 delta ac3 zd Ik Iq Ix Oa Oc Ol Om
 dsimp -proj -eta only;obtain⟨hS,hC⟩:=hpre;have hm:=hC.m;have ho:=hC.ob;have ho0:=hC.ob0;have h1:=ko (n:=(c.2.1.length:Int)) hS (by rw[au];(try dsimp only);omega);have h2:=ko (n:=8) h1.1 (by rw[au];(try dsimp only);omega);refine⟨btx hC (by omega),hS.2,h1.1.2,?_⟩;have f0:=h1.2.1;have f1:=h1.2.2.1;generalize bf s c.2.1.length=f at *;generalize bm s c.2.1.length=z at *;have hZ:=h2.1;generalize bf z 8=w at *;generalize bm z 8=y at *;have n1:=ko (n:=(c.2.1.length:Int)+1) hZ (by rw[au];(try dsimp only);omega);have n2:=ko (n:=(c.2.1.length:Int)) hZ (by rw[au];(try dsimp only);omega);have n3:=ko (n:=(c.2.1.length:Int)+1) n2.1 (by rw[au];(try dsimp only);omega);have n4:=ko (n:=c.1+1) hZ (by rw[au];(try dsimp only);omega);have hrow:0<c.2.1.length->(c.2.2.2.2.getD f.toNat []).length=c.2.1.length:=fun h=>hC.rowG f0 (f1 (by omega));have hlc:=hC.lc;have hlt:=hC.lt;refine cz (fun (q:ce8)=>cn q.2.1/\q.2.2.1.2.1.length<=c.2.1.length+1) (fun q hq=>by intros;exact hq) (fun k hk=>?_);refine ba (fun _=>?_) (fun _=>?_)
 ·have hp:=cbu (s:=y) (l:=[c.1+1,-1,9]) hZ (cdq (by rw[eh];simp) (fun x hx=>by simp only[a0t,a3x,or_false]at hx;rw[au];omega)) (by simp);exact⟨by rw[au];(try dsimp only);omega,hZ,by simp,hk _ ⟨hp.1,a2a _⟩⟩
 refine cz (fun (q:ce8)=>cn q.2.1/\q.2.2.1.2.1.length<=c.2.1.length+1) (fun q hq=>by intros;exact hk _ hq) (fun k1 hk1=>?_);refine ba (fun _=>?_) (fun _=>?_)
 ·exact⟨ck (by simp only[a0h,a0i];omega),hk1 _ ⟨hZ,by simp⟩⟩
 refine cz (fun (q:ce8)=>cn q.2.1/\q.2.2.1.2.1.length<=c.2.1.length+1) (fun q hq=>by intros;exact hk1 _ hq) (fun k2 hk2=>?_);refine ba (fun _=>?_) (fun _=>?_)
 ·refine cz (fun (q:ce8)=>cn q.2.1/\q.2.2.1.2.1.length<=c.2.1.length+1) (fun q hq=>by intros;exact hk2 _ hq) (fun k3 hk3=>?_);refine bd (fun hl=>?_) (fun hl=>?_)
  ·exact⟨by rw[au];(try dsimp only);omega,hZ.2,a02 _,hl,hk3 _ ⟨n1.1,a2a _⟩⟩
  ·exact hk3 _ ⟨hZ,a2a _⟩
 refine cz (fun (q:cfi)=>q.2.1=y/\q.2.2.1=c) ?_ ?_
 ·rintro⟨⟨_,_,_,b,_⟩,y2,c2,_⟩ ⟨e1,e2⟩;intros
  try dsimp only at e1 e2⊢
  subst e1;subst e2;refine cz (fun (q:ce8)=>cn q.2.1/\q.2.2.1.2.1.length<=c2.2.1.length+1) (fun q hq=>by intros;exact hk2 _ hq) (fun k3 hk3=>?_);refine ba (fun _=>?_) (fun _=>?_)
  ·refine cz (fun (q:ce8)=>cn q.2.1/\q.2.2.1.2.1.length<=c2.2.1.length+1) (fun q hq=>by intros;exact hk3 _ hq) (fun k4 hk4=>?_);refine bd (fun hl=>?_) (fun hl=>?_)
   ·have hr:=hrow (by omega);have b3:=n3.2.2.1 (by omega);have b3a:=n3.2.1;have b2:=n2.2.2.1 (by omega);exact⟨f0,by have:=f1 (by omega);omega,by rw[au];(try dsimp only);omega,hZ.2,n2.1.2,by rw[au];(try dsimp only);omega,n2.2.1,by rw[hr];exact b2,hk4 _ ⟨n3.1,a2a _⟩⟩
   ·exact hk4 _ ⟨hZ,a2a _⟩
  refine cz (fun (q:ce8)=>cn q.2.1/\q.2.2.1.2.1.length<=c2.2.1.length+1) (fun q hq=>by intros;exact hk3 _ hq) (fun k4 hk4=>?_);refine ba (fun _=>?_) (fun _=>?_)
  ·refine cz (fun (q:ce8)=>cn q.2.1/\q.2.2.1.2.1.length<=c2.2.1.length+1) (fun q hq=>by intros;exact hk4 _ hq) (fun k5 hk5=>?_);refine bd (fun hl=>?_) (fun hl=>?_)
   ·exact⟨by rw[au];(try dsimp only);omega,hZ.2,f0,by have:=f1 (by omega);omega,hk5 _ ⟨n4.1,a2a _⟩⟩
   ·exact hk5 _ ⟨hZ,a2a _⟩
  refine cz (fun (q:cfi)=>q.2.1=y2/\q.2.2.1=c2/\q.1.2.2.2.1=decide (0<(c2.2.1.length:Int))) ?_ (fun k5 hk5=>hk5 _ ⟨rfl,rfl,rfl⟩);rintro⟨⟨_,_,_,b2,_⟩,y3,c3,_⟩ ⟨e3,e4,e5⟩;intros
  try dsimp only at e3 e4 e5⊢
  subst e3;subst e4;subst e5;refine cz (fun (q:ce8)=>cn q.2.1/\q.2.2.1.2.1.length<=c3.2.1.length+1) (fun q hq=>by intros;exact hk4 _ hq) (fun k5 hk5=>?_);refine bd (fun hl=>?_) (fun hl=>?_)
  ·have hr:=hrow (by omega);have:=f1 (by omega);exact⟨f0,by omega,by omega,by rw[hr];omega,f0,by omega,hk5 _ ⟨hZ,a2a _⟩⟩
  ·exact hk5 _ ⟨hZ,a2a _⟩
 ·intro k3 hk3;refine ba (fun _=>hk3 _ ⟨rfl,rfl⟩) (fun _=>?_);refine cz (fun (q:cfi)=>q.2.1=y/\q.2.2.1=c) (fun q hq=>by intros;exact hk3 _ hq) (fun k4 hk4=>?_);exact ba (fun _=>hk4 _ ⟨rfl,rfl⟩) (fun _=>hk4 _ ⟨rfl,rfl⟩)
theorem adq(s:ac)(c:aa):∃q:ac×(aa×Unit),ab (ii.o.strip.oks s)->ab (okL ii.as (c,()))->ab (ii.pre s (c,()))->ac3 s c (fun z r=>z=q.1/\r=q.2)/\ab (ii.o.strip.oks q.1)/\ab (okR ii.rt q.2)/\zd s c q.1 q.2.1:=pkw (ae df (ae aoi (ae y8 az))) bg 99 Tryz.f99 ii aog [(18,40010),(21,40006),(6,9),(13,40004)] gz (fun x y K=>ac3 x y.1 K) (fun x y z r=>zd x y.1 z r.1) (fun x y h1 h2 h3=>bfh x y.1 h1 h2 h3) s (c,())
def xr(s:ac)(c:aa):ac:=(adq s c).choose.1
def wc(s:ac)(c:aa):aa:=(adq s c).choose.2.1
theorem bc4(s:ac)(c:aa)(hok:ab (ii.o.strip.oks s))(hok2:ab (okL ii.as (c,())))(hpre:ab (ii.pre s (c,()))):ab (ii.o.strip.oks (xr s c))/\ab (okR ii.rt (wc s c,()))/\zd s c (xr s c) (wc s c):=((adq s c).choose_spec hok hok2 hpre).2
def anw:Wt:=⟨oc,[bp],[true],fun x y=>[cn x,CgR 1000000000 y.1],fun x y=>(xr x y.1),[(true,awj)],fun x y=>((wc x y.1),()),0⟩
def aqz:Ct:=vr anw
theorem an6:bw Tryz.prog 99 aqz:=wtb (ae df (ae aoi (ae y8 az))) bg 99 Tryz.f99 anw aog [(18,40010),(21,40006),(6,9),(13,40004)] (fun x y h1 h2 h3=>Eq.mp (by kernel_rfl) ((adq x y.1).choose_spec h1 h2 h3).1)
theorem cc3{s:ac}{c:aa}(h:cn s)(ho:ab (T.oks bp c))(hc:CgR 1000000000 c):cn (xr s c)/\(wc s c).2.1.length<=c.2.1.length+1:=(bc4 s c h.1 ho ⟨h,hc,trivial⟩).2.2
structure TblR (t:List (List Int)):Prop where
 lo:1<=t.length
 hi:t.length<=8
 rw_:∀r∈t,r.length=t.length
 en:∀r∈t,∀x∈r,0<=x/\x<=8
 cl:∀r∈t,∀x∈r,x<t.length
theorem TblR.own{t:List (List Int)}(h:TblR t):OwnP t:=⟨by have:=h.hi;omega,fun r hr=>by have:=h.rw_ r hr;have:=h.hi;omega⟩
theorem TblR.row{t:List (List Int)}(h:TblR t){i:Int}(i0:0<=i)(i1:i<t.length):(t.getD i.toNat []).length=t.length:=h.rw_ _ (cp t [] i0 i1)
def fq:Wt:=⟨oc,[],[],fun x y=>[cn x],fun x _=>x,[(false,vp)],fun _ _=>dfR _,0⟩
def v9(s z:ac)(r0:List (List Int)):Prop:=cn z/\TblR r0
def z6(s:ac)(K:ac->(ce2×Unit)->Prop):Prop:=let b:=bf s 8;let a:=bm s 8;0<=s.2.1/\cnd (b==0) (K a ([[0]],())) (cnd (b==1) (K a ([[0,1],[1,0]],())) (cnd (b==2) (K a ([[0,1],[1,1]],())) (cnd (b==3) (K a ([[0,1,2],[1,2,0],[2,0,1]],())) (cnd (b==4) (K a ([[0,1,2],[1,1,2],[2,2,2]],())) (cnd (b==5) (K a ([[0,1,2],[1,1,2],[2,1,2]],())) (cnd (b==6) (K a ([[0,1,2,3],[1,0,2,3],[2,3,2,3],[3,2,2,3]],())) (K a ([[0,1,2],[1,2,2],[2,2,2]],()))))))))
theorem azs(s:ac)(hok:ab (fq.o.strip.oks s))(hok2:ab (okL fq.as (())))(hpre:ab (fq.pre s (()))):z6 s (fun z r=>v9 s z r.1):=by
 simp only[fq,O.strip,okL,T.oks,T.ok,ap,ab,a0f,a0c,a0g]at hok hok2 hpre
 try dsimp only[T.den]at hok
 try dsimp only[T.den]at hok2
 try dsimp only[T.den]at hpre
 delta z6 v9
 dsimp -proj -eta only;have h1:=ko (n:=8) hpre (by rw[au];(try dsimp only);omega);refine⟨hpre.2,?_⟩
 repeat' first|exact⟨h1.1,⟨by simp,by simp,by simp,by decide,by decide⟩⟩|refine ba (fun _=>⟨h1.1,⟨by simp,by simp,by simp,by decide,by decide⟩⟩) (fun _=>?_)
theorem z8(s:ac):∃q:ac×(ce2×Unit),ab (fq.o.strip.oks s)->ab (okL fq.as (()))->ab (fq.pre s (()))->z6 s (fun z r=>z=q.1/\r=q.2)/\ab (fq.o.strip.oks q.1)/\ab (okR fq.rt q.2)/\v9 s q.1 q.2.1:=pkw (ae df az) bg 129 Tryz.f129 fq .n [] gz (fun x y K=>z6 x K) (fun x y z r=>v9 x z r.1) (fun x y h1 h2 h3=>azs x h1 h2 h3) s (())
def sd(s:ac):ac:=(z8 s).choose.1
def oh(s:ac):List (List Int):=(z8 s).choose.2.1
theorem aym(s:ac)(hok:ab (fq.o.strip.oks s))(hok2:ab (okL fq.as (())))(hpre:ab (fq.pre s (()))):ab (fq.o.strip.oks (sd s))/\ab (okR fq.rt (oh s,()))/\v9 s (sd s) (oh s):=((z8 s).choose_spec hok hok2 hpre).2
def akv:Wt:=⟨oc,[],[],fun x y=>[cn x],fun x y=>(sd x),[(false,vp)],fun x y=>((oh x),()),0⟩
def afi:Ct:=vr akv
theorem yk:bw Tryz.prog 129 afi:=wtb (ae df az) bg 129 Tryz.f129 akv .n [] (fun x y h1 h2 h3=>Eq.mp (by kernel_rfl) ((z8 x).choose_spec h1 h2 h3).1)
theorem ase{s:ac}(h:cn s):cn (sd s)/\TblR (oh s)/\(T.sl ed).ok (oh s):=by obtain⟨_,h2,h3⟩:=aym s h.1 trivial ⟨h,trivial⟩;exact⟨h3.1,h3.2,h2.1⟩
structure RowP (n:Int) (m:List (List Int)):Prop where
 l:(m.length:Int)=n
 r:∀r∈m,(r.length:Int)=n
theorem RowP.row{n:Int}{m:List (List Int)}(h:RowP n m){i:Int}(i0:0<=i)(i1:i<n):((m.getD i.toNat []).length:Int)=n:=h.r _ (cp m [] i0 (by have:=h.l;omega))
theorem RowP.set{n:Int}{m:List (List Int)}(h:RowP n m){i:Int}(i0:0<=i)(i1:i<n){j:Nat}{x:Int}:RowP n (m.set i.toNat ((m.getD i.toNat []).set j x)):=
 ⟨by rw[a1m];exact h.l,fun r hr=>by
  rcases a48 hr with hr|hr
  ·exact h.r r hr
  ·rw[hr,a1m];exact h.row i0 i1⟩
def ja(rel:List (List Int))(a b:Int):Int:=(rel.getD a.toNat []).getD b.toNat 0
structure PreP (rel:List (List Int)):Prop where
 r:∀i:Int,0<=i->i<rel.length->ja rel i i=1
 t:∀i j k:Int,0<=i->i<rel.length->0<=j->j<rel.length->0<=k->k<rel.length->ja rel i j=1->ja rel j k=1->ja rel i k=1
theorem bnp{n:Int}{m:List (List Int)}(h:RowP n m){i j x:Int}(i0:0<=i)(i1:i<n)(j0:0<=j)(j1:j<n){a b:Int}(a0:0<=a)(b0:0<=b) :
  ja (m.set i.toNat ((m.getD i.toNat []).set j.toNat x)) a b=if a=i/\b=j then x else ja m a b:=by
 have hl:=h.l;have hr:=h.row i0 i1;unfold ja;simp only[a0l]at hr⊢;by_cases ha:a=i
 ·subst ha;rw[a4l (by omega),a1n];by_cases hb:b=j
  ·subst hb;rw[a0a ⟨rfl,rfl⟩,a4l (by omega)];rfl
  ·rw[ds (fun h=>hb h.2),a4m (by omega)]
 ·rw[ds (fun h=>ha h.1),a4m (by omega)]
def bvi(n:Int)(m:List (List Int)):Prop:=∀a:Int,0<=a->a<n->ja m a a=1
def TrK(n k:Int)(m:List (List Int)):Prop:=∀l a b:Int,0<=l->l<k->0<=a->a<n->0<=b->b<n->ja m a l=1->ja m l b=1->ja m a b=1
def WarP(n k i j:Int)(m R:List (List Int)):Prop:=∀a b:Int,0<=a->a<n->0<=b->b<n->(ja m a b=1<->ja R a b=1\/((a<i\/a=i/\b<j)/\ja R a k=1/\ja R k b=1))
def WkP(n k:Int)(m:List (List Int)):Prop:=RowP n m/\bvi n m/\TrK n k m
def WjP(n k i j:Int)(m:List (List Int)):Prop:=RowP n m/\∃R,bvi n R/\TrK n k R/\WarP n k i j m R
theorem WkP.go{n k:Int}{m:List (List Int)}(h:WkP n k m):WjP n k 0 0 m:=⟨h.1,m,h.2.1,h.2.2,fun a b a0 a1 b0 b1=>⟨.inl,fun q=>q.elim id fun q=>by omega⟩⟩
theorem WjP.rd{n k i j:Int}{m R:List (List Int)}(hR:bvi n R)(k0:0<=k)(k1:k<n)(h:WarP n k i j m R){a:Int}(a0:0<=a)(a1:a<n):(ja m a k=1<->ja R a k=1)/\(ja m k a=1<->ja R k a=1):=by have h1:=h a k a0 a1 k0 k1;have h2:=h k a k0 k1 a0 a1;exact⟨⟨fun q=>(h1.1 q).elim id fun q=>q.2.1,fun q=>h1.2 (.inl q)⟩,⟨fun q=>(h2.1 q).elim id fun q=>q.2.2,fun q=>h2.2 (.inl q)⟩⟩
theorem WjP.yes{n k i j:Int}{m:List (List Int)}(h:WjP n k i j m)(k0:0<=k)(k1:k<n)(i0:0<=i)(i1:i<n)(j0:0<=j)(j1:j<n)(h1:ja m i k=1)(h2:ja m k j=1):WjP n k i (j+1) (m.set i.toNat ((m.getD i.toNat []).set j.toNat 1)):=by
 obtain⟨hm,R,hR,hT,hW⟩:=h;refine⟨hm.set i0 i1,R,hR,hT,fun a b a0 a1 b0 b1=>?_⟩;have e1:=((WjP.rd hR k0 k1 hW i0 i1).1).1 h1;have e2:=((WjP.rd hR k0 k1 hW j0 j1).2).1 h2;rw[bnp hm i0 i1 j0 j1 a0 b0];by_cases hab:a=i/\b=j
 ·rw[a0a hab];obtain⟨rfl,rfl⟩:=hab;exact⟨fun _=>.inr ⟨.inr ⟨rfl,by omega⟩,e1,e2⟩,fun _=>rfl⟩
 ·rw[ds hab,hW a b a0 a1 b0 b1];constructor
  ·rintro (q|⟨q,r⟩)
   ·exact .inl q
   ·exact .inr ⟨q.elim .inl fun q=>.inr ⟨q.1,by omega⟩,r⟩
  ·rintro (q|⟨q,r⟩)
   ·exact .inl q
   ·exact .inr ⟨q.elim .inl fun q=>.inr ⟨q.1,by have:=fun e=>hab ⟨q.1,e⟩;omega⟩,r⟩
theorem WjP.no{n k i j:Int}{m:List (List Int)}(h:WjP n k i j m)(k0:0<=k)(k1:k<n)(i0:0<=i)(i1:i<n)(j0:0<=j)(j1:j<n)(hn:¬(ja m i k=1/\ja m k j=1)):WjP n k i (j+1) m:=by
 obtain⟨hm,R,hR,hT,hW⟩:=h;refine⟨hm,R,hR,hT,fun a b a0 a1 b0 b1=>?_⟩;rw[hW a b a0 a1 b0 b1];constructor
 ·rintro (q|⟨q,r⟩)
  ·exact .inl q
  ·exact .inr ⟨q.elim .inl fun q=>.inr ⟨q.1,by omega⟩,r⟩
 ·rintro (q|⟨q,r⟩)
  ·exact .inl q
  ·rcases q with q|⟨q1,q2⟩
   ·exact .inr ⟨.inl q,r⟩
   ·by_cases e:b=j
    ·subst q1;subst e;exact absurd ⟨((WjP.rd hR k0 k1 hW i0 i1).1).2 r.1,((WjP.rd hR k0 k1 hW j0 j1).2).2 r.2⟩ hn
    ·exact .inr ⟨.inr ⟨q1,by omega⟩,r⟩
theorem WjP.row{n k i:Int}{m:List (List Int)}(h:WjP n k i n m):WjP n k (i+1) 0 m:=by
 obtain⟨hm,R,hR,hT,hW⟩:=h;refine⟨hm,R,hR,hT,fun a b a0 a1 b0 b1=>?_⟩;rw[hW a b a0 a1 b0 b1];have:(a<i\/a=i/\b<n)<->(a<i+1\/a=i+1/\b<0):=by omega
 rw[this]
theorem WjP.fin{n k:Int}{m:List (List Int)}(h:WjP n k n 0 m)(k0:0<=k)(k1:k<n):WkP n (k+1) m:=by
 obtain⟨hm,R,hR,hT,hW⟩:=h;have W:∀a b:Int,0<=a->a<n->0<=b->b<n->(ja m a b=1<->ja R a b=1\/(ja R a k=1/\ja R k b=1)):=fun a b a0 a1 b0 b1=>by rw[hW a b a0 a1 b0 b1];exact⟨fun q=>q.elim .inl fun q=>.inr q.2,fun q=>q.elim .inl fun q=>.inr ⟨.inl a1,q⟩⟩
 refine⟨hm,fun a a0 a1=>(W a a a0 a1 a0 a1).2 (.inl (hR a a0 a1)),fun l a b l0 l1 a0 a1 b0 b1 h1 h2=>?_⟩;have l2:l<n:=by omega
 have g1:=(W a l a0 a1 l0 l2).1 h1;have g2:=(W l b l0 l2 b0 b1).1 h2;by_cases hl:l=k
 ·subst hl;have e1:ja R a l=1:=g1.elim id fun q=>q.1;have e2:ja R l b=1:=g2.elim id fun q=>q.2;exact (W a b a0 a1 b0 b1).2 (.inr ⟨e1,e2⟩)
 ·have hlk:l<k:=by omega
  rcases g1 with g1|⟨g1,g1'⟩
  ·rcases g2 with g2|⟨g2,g2'⟩
   ·exact (W a b a0 a1 b0 b1).2 (.inl (hT l a b l0 hlk a0 a1 b0 b1 g1 g2))
   ·exact (W a b a0 a1 b0 b1).2 (.inr ⟨hT l a k l0 hlk a0 a1 k0 k1 g1 g2,g2'⟩)
  ·rcases g2 with g2|⟨g2,g2'⟩
   ·exact (W a b a0 a1 b0 b1).2 (.inr ⟨g1,hT l k b l0 hlk k0 k1 b0 b1 g1' g2⟩)
   ·exact (W a b a0 a1 b0 b1).2 (.inr ⟨g1,g2'⟩)
theorem WkP.pre{n k:Int}{m:List (List Int)}(h:WkP n k m)(hk:n<=k):PreP m:=by have hl:=h.1.l;exact⟨fun i i0 i1=>h.2.1 i i0 (by omega),fun i j k' i0 i1 j0 j1 k0 k1 h1 h2=>h.2.2 j i k' j0 (by omega) i0 (by omega) k0 (by omega) h1 h2⟩
theorem WkP.set1{n:Int}{m:List (List Int)}(h:WkP n 0 m){i j:Int}(i0:0<=i)(i1:i<n)(j0:0<=j)(j1:j<n):WkP n 0 (m.set i.toNat ((m.getD i.toNat []).set j.toNat 1)):=⟨h.1.set i0 i1,fun a a0 a1=>by rw[bnp h.1 i0 i1 j0 j1 a0 a0];split;rfl;exact h.2.1 a a0 a1,fun l a b l0 l1=>by omega⟩
def dr:Wt:=⟨oc,[bc],[false],fun x y=>[cn x,0<=y.1,y.1<=8],fun x _=>x,[(false,vp)],fun _ _=>dfR _,0⟩
def uh(s:ac)(n:Int)(z:ac)(r0:List (List Int)):Prop:=cn z/\RowP n r0/\PreP r0
def ahb:Ann:=(.s .n (.s .n (.s (.s .n (.l [(0,(.ad 1000000 [.de])),(5,(.ref 800005 [])),(6,(.d bc))] awa [1] (.s .n (.s (.s .n (.s .n (.s (.s .n (.l [(0,(.ad 1000000 [.de])),(5,(.ref 800005 [])),(7,(.ref 19 [])),(8,(.d bc))] [(1000000,yj),(800005,vp),(19,dq)] [1,6] .n)) .n))) .n)))) (.s (.s .n (.j bxp awa [1] .n)) (.s (.s .n (.l [(0,(.ad 1000000 [.de])),(5,(.ref 800005 [])),(9,(.d bc))] awa [1] (.s .n (.s (.s .n (.l [(0,(.ad 1000000 [.de])),(5,(.ref 800005 [])),(10,(.d bc))] awa [1,9] (.s .n (.s (.s .n (.l [(0,(.ad 1000000 [.de])),(5,(.ref 800005 [])),(11,(.d bc))] awa [1,9,10] (.s .n (.s (.s .n (.j bxp awa [1,9,10,11] .n)) .n)))) .n)))) .n)))) .n)))))
def xl(s:ac)(n:Int)(K:ac->(ce2×Unit)->Prop):Prop:=let c2:=decide (1<n);let c0:=Int.toNat (n-1);let b7:=List.replicate n.toNat (0:Int);bn (S:=cfa) (fun a b=>let b6:=a.2.1;let c4:=bf b6 n;let b3:=a.2.2.1;let a9:=a.1.2.2.1;let a4:=bm b6 4;let c3:=bf a4 n;let a3:=b3.getD c0 [];Iq a9<|Oa iq b6.1<|Iq b6.2.1<|inK .u64 b6.2.2->(Om b3<|cnd (decide (a9<n)) (0<=n/\n<=n/\n<=((140737488355328:Nat):Int)/\n*((8:Nat):Int)<=((140737488355328:Nat):Int)/\(Ix a9 b7.length<|Ik (a9+1)<|bn (S:=cf2) (fun c d=>let c1:=c.2.2.2.1;let b2:=c.1.2.2.2.1;Iq b2<|Oa iq c.2.1.1<|Iq c.2.1.2.1<|inK .u64 c.2.1.2.2->(Om c.2.2.1<|Ol c1<|cnd (decide (b2<n)) (0<=c.2.1.2.1/\(Ix b2 c1.length<|Ik (b2+1)<|d (((),(),(),b2+1,()),bm c.2.1 2,c.2.2.1,List.set c1 b2.toNat (bf c.2.1 2),()))) (c9 c.2.2.1.length [c1].length 24/\(Ik (a9+1)<|b (((),(),a9+1,()),c.2.1,c.2.2.1++[c1],()))))) (((),(),(),a9+1,()),b6,b3,List.set b7 a9.toNat 1,()))) (ifP (c2=true) (0<=b6.2.1/\dk (S:=cfz) (fun e=>Oa iq e.2.1.1<|Iq e.2.1.2.1<|inK .u64 e.2.1.2.2->(Om e.2.2.1<|bn (S:=cfa) (fun f g=>let a5:=f.1.2.2.1;Iq a5<|Oa iq f.2.1.1<|Iq f.2.1.2.1<|inK .u64 f.2.1.2.2->(Om f.2.2.1<|cnd (decide (a5<n)) (bn (S:=cfa) (fun h i=>let b0:=h.1.2.2.1;Iq b0<|Oa iq h.2.1.1<|Iq h.2.1.2.1<|inK .u64 h.2.1.2.2->(Om h.2.2.1<|cnd (decide (b0<n)) (bn (S:=cfa) (fun j l=>let b8:=j.2.2.1;let a7:=j.1.2.2.1;let a1:=b8.getD b0.toNat [];let b4:=a1.getD a5.toNat 0;Iq a7<|Oa iq j.2.1.1<|Iq j.2.1.2.1<|inK .u64 j.2.1.2.2->(Om b8<|cnd (decide (a7<n)) (Ix b0 b8.length<|Ix a5 a1.length<|((b4==1)=true->a5<(b8.length:Int)/\0<=a5)/\((b4==1)=true->a7<((b8.getD a5.toNat []).length:Int)/\0<=a7)/\dk (S:=cfz) (fun m=>Oa iq m.2.1.1<|Iq m.2.1.2.1<|inK .u64 m.2.1.2.2->(Om m.2.2.1<|Ik (a7+1)<|l (((),(),a7+1,()),m.2.1,m.2.2.1,()))) (fun o=>cnd (b4==1&&(b8.getD a5.toNat []).getD a7.toNat 0==1) (Ix b0 b8.length<|Ix a7 a1.length<|o (((),(),()),j.2.1,List.set b8 b0.toNat (List.set a1 a7.toNat 1),())) (o (((),(),()),j.2.1,b8,())))) (Ik (b0+1)<|i (((),(),b0+1,()),j.2.1,b8,())))) (((),(),0,()),h.2.1,h.2.2.1,())) (Ik (a5+1)<|g (((),(),a5+1,()),h.2.1,h.2.2.1,())))) (((),(),0,()),f.2.1,f.2.2.1,())) (K f.2.1 (f.2.2.1,())))) (((),(),0,()),e.2.1,e.2.2.1,()))) (fun p=>cnd (c2&&bf b6 4==0) (Ik (n-1)<|Ix (n-1) b3.length<|0<=a4.2.1/\(Ix c3 a3.length<|p (((),(),()),bm a4 n,List.set b3 c0 (List.set a3 c3.toNat 1),()))) (p (((),(),()),a4,b3,())))) (dk (S:=cfz) (fun q=>Oa iq q.2.1.1<|Iq q.2.1.2.1<|inK .u64 q.2.1.2.2->(Om q.2.2.1<|bn (S:=cfa) (fun r t=>let a6:=r.1.2.2.1;Iq a6<|Oa iq r.2.1.1<|Iq r.2.1.2.1<|inK .u64 r.2.1.2.2->(Om r.2.2.1<|cnd (decide (a6<n)) (bn (S:=cfa) (fun u v=>let b1:=u.1.2.2.1;Iq b1<|Oa iq u.2.1.1<|Iq u.2.1.2.1<|inK .u64 u.2.1.2.2->(Om u.2.2.1<|cnd (decide (b1<n)) (bn (S:=cfa) (fun w x=>let b9:=w.2.2.1;let a8:=w.1.2.2.1;let a2:=b9.getD b1.toNat [];let b5:=a2.getD a6.toNat 0;Iq a8<|Oa iq w.2.1.1<|Iq w.2.1.2.1<|inK .u64 w.2.1.2.2->(Om b9<|cnd (decide (a8<n)) (Ix b1 b9.length<|Ix a6 a2.length<|((b5==1)=true->a6<(b9.length:Int)/\0<=a6)/\((b5==1)=true->a8<((b9.getD a6.toNat []).length:Int)/\0<=a8)/\dk (S:=cfz) (fun y=>Oa iq y.2.1.1<|Iq y.2.1.2.1<|inK .u64 y.2.1.2.2->(Om y.2.2.1<|Ik (a8+1)<|x (((),(),a8+1,()),y.2.1,y.2.2.1,()))) (fun z=>cnd (b5==1&&(b9.getD a6.toNat []).getD a8.toNat 0==1) (Ix b1 b9.length<|Ix a8 a2.length<|z (((),(),()),w.2.1,List.set b9 b1.toNat (List.set a2 a8.toNat 1),())) (z (((),(),()),w.2.1,b9,())))) (Ik (b1+1)<|v (((),(),b1+1,()),w.2.1,b9,())))) (((),(),0,()),u.2.1,u.2.2.1,())) (Ik (a6+1)<|t (((),(),a6+1,()),u.2.1,u.2.2.1,())))) (((),(),0,()),r.2.1,r.2.2.1,())) (K r.2.1 (r.2.2.1,())))) (((),(),0,()),q.2.1,q.2.2.1,()))) (fun a0=>cnd (c2&&(0:Int)==0) (Ik (n-1)<|Ix (n-1) b3.length<|0<=b6.2.1/\(Ix c4 a3.length<|a0 (((),(),()),bm b6 n,List.set b3 c0 (List.set a3 c4.toNat 1),()))) (a0 (((),(),()),b6,b3,()))))))) (((),(),0,()),s,[],())
theorem atm(s:ac)(n:Int)(hok:ab (dr.o.strip.oks s))(hok2:ab (okL dr.as (n,())))(hpre:ab (dr.pre s (n,()))):xl s n (fun z r=>uh s n z r.1):=by
 simp only[dr,O.strip,okL,T.oks,T.ok,ap,ab,a0f,a0c,a0g]at hok hok2 hpre
 try dsimp only[T.den]at hok
 try dsimp only[T.den]at hok2
 try dsimp only[T.den]at hpre
 delta xl uh Ik Iq Ix Oa Ol Om
 dsimp -proj -eta only;obtain⟨hs0,hn1,hn8⟩:=hpre;refine bq (fun (s:cfa)=>0<=s.1.2.2.1/\s.1.2.2.1<=n/\cn s.2.1/\(s.2.2.1.length:Int)=s.1.2.2.1/\(∀r∈s.2.2.1,(r.length:Int)=n)/\∀a:Int,0<=a->a<s.1.2.2.1->ja s.2.2.1 a a=1) (fun (s:cfa)=>(n-s.1.2.2.1).toNat) ?_ ⟨by simp,by (try dsimp only);omega,hs0,by simp,by simp,fun a a0 a1=>by dsimp only at a1;omega⟩;rintro⟨⟨_,_,i,_⟩,s1,m1,_⟩ next ⟨h0,h1,h2,h3,h4,h5⟩ hn
 intros
 try dsimp only at h0 h1 h2 h3 h4 h5 hn⊢
 refine bd (fun hc=>?_) (fun hc=>?_)
 ·refine⟨by omega,a02 _,by omega,by omega,h0,by rw[a05];omega,by rw[au];(try dsimp only);omega,?_⟩;refine bq (fun (s:cf2)=>i+1<=s.1.2.2.2.1/\s.1.2.2.2.1<=n/\cn s.2.1/\s.2.2.1=m1/\(s.2.2.2.1.length:Int)=n/\s.2.2.2.1.getD i.toNat 0=1) (fun (s:cf2)=>(n-s.1.2.2.2.1).toNat) ?_ ⟨by (try dsimp only);omega,by (try dsimp only);omega,h2,rfl,by (try dsimp only);rw[a1m,a05];omega,by (try dsimp only);rw[a0l,a4l (by rw[a05];omega)];rfl⟩;rintro⟨⟨_,_,_,j,_⟩,s2,m2,row,_⟩ next1 ⟨g0,g1,g2,g3,g4,g5⟩ hn1';intros
  try dsimp only at g0 g1 g2 g3 g4 g5 hn1'⊢
  subst g3;refine bd (fun hd=>?_) (fun hd=>?_)
  ·exact⟨g2.2,by omega,by omega,by rw[au];(try dsimp only);omega,hn1' _ ⟨by dsimp only;omega,by dsimp only;omega,(ko g2 (by rw[au];(try dsimp only);omega)).1,rfl,by rw[a1m];exact g4,by dsimp only;rw[a0l,a4m (by omega),←a0l];exact g5⟩ (by first|omega|(dsimp only;omega))⟩
  ·refine⟨?_,by rw[au];(try dsimp only);omega,hn _ ⟨by dsimp only;omega,by dsimp only;omega,g2,?_,?_,?_⟩ (by first|omega|(dsimp only;omega))⟩
   ·unfold c9;rw[eh];simp only[a0h,a0i];omega
   ·simp only[a0m,a0h,a0i];omega
   ·intro r hr;rcases a07.1 hr with hr|hr
    ·exact h4 r hr
    ·simp only[a0s]at hr;subst hr;exact g4
   ·intro a a0 a1
    try dsimp only at a1⊢
    unfold ja;by_cases ha:a<i
    ·have:=h5 a a0 ha;unfold ja at this;rw[wq a0 (by omega)];exact this
    ·have:a=i:=by omega
     subst this;rw[aby (by omega),show (a-(m2.length:Int)).toNat=0 by omega];exact g5
 have hR:RowP n m1:=⟨by omega,h4⟩;have hnx:=ko (n:=4) h2 (by rw[au];(try dsimp only);omega);have lr:1<=n->((m1.getD (n-1).toNat []).length:Int)=n:=fun h=>hR.row (i:=n-1) (by omega) (by omega);have lm:=hR.l;have hK:WkP n 0 m1:=⟨hR,fun a a0 a1=>h5 a a0 (by omega),fun l a b l0 l1=>by omega⟩;refine⟨fun hg=>⟨h2.2,cz (fun s2=>cn s2.2.1/\WkP n 0 s2.2.2.1) (fun s2 hs _ _ _ _=>?_) (fun k hk=>ba (fun _=>?_) (fun _=>hk _ ⟨hnx.1,hK⟩))⟩,fun hg=>cz (fun s2=>cn s2.2.1/\WkP n 0 s2.2.2.1) (fun s2 hs _ _ _ _=>?_) (fun k hk=>ba (fun hx=>?_) (fun _=>hk _ ⟨h2,hK⟩))⟩
 ·skip
  refine bq (fun (s:cfa)=>0<=s.1.2.2.1/\s.1.2.2.1<=n/\cn s.2.1/\WkP n s.1.2.2.1 s.2.2.1) (fun (s:cfa)=>(n-s.1.2.2.1).toNat) ?_ ⟨by simp,by (try dsimp only);omega,hs⟩;rintro⟨⟨_,_,k,_⟩,s3,m3,_⟩ next3 ⟨k0,k1,k2,k3⟩ hn3;intros
  try dsimp only at k0 k1 k2 k3 hn3⊢
  refine bd (fun hkc=>?_) (fun hkc=>⟨k2,k3.1,k3.pre (by omega)⟩);refine bq (fun (s:cfa)=>0<=s.1.2.2.1/\s.1.2.2.1<=n/\cn s.2.1/\WjP n k s.1.2.2.1 0 s.2.2.1) (fun (s:cfa)=>(n-s.1.2.2.1).toNat) ?_ ⟨by simp,by (try dsimp only);omega,k2,k3.go⟩;rintro⟨⟨_,_,i,_⟩,s4,m4,_⟩ next4 ⟨i0,i1,i2,i3⟩ hn4;intros
  try dsimp only at i0 i1 i2 i3 hn4⊢
  refine bd (fun hic=>?_) (fun hic=>⟨by rw[au];(try dsimp only);omega,hn3 _ ⟨by dsimp only;omega,by dsimp only;omega,i2,WjP.fin (by rw[show i=n by omega]at i3;exact i3) k0 hkc⟩ (by first|omega|(dsimp only;omega))⟩);refine bq (fun (s:cfa)=>0<=s.1.2.2.1/\s.1.2.2.1<=n/\cn s.2.1/\WjP n k i s.1.2.2.1 s.2.2.1) (fun (s:cfa)=>(n-s.1.2.2.1).toNat) ?_ ⟨by simp,by (try dsimp only);omega,i2,i3⟩;rintro⟨⟨_,_,j,_⟩,s5,m5,_⟩ next5 ⟨j0,j1,j2,j3⟩ hn5;intros
  try dsimp only at j0 j1 j2 j3 hn5⊢
  refine bd (fun hjc=>?_) (fun hjc=>⟨by rw[au];(try dsimp only);omega,hn4 _ ⟨by dsimp only;omega,by dsimp only;omega,j2,WjP.row (by rw[show j=n by omega]at j3;exact j3)⟩ (by first|omega|(dsimp only;omega))⟩);have l1:=j3.1.l;have l2:=j3.1.row i0 hic;have l3:=j3.1.row k0 hkc;refine⟨i0,by omega,k0,by omega,fun _=>⟨by omega,k0⟩,fun _=>⟨by omega,j0⟩,cz (fun s6=>cn s6.2.1/\WjP n k i (j+1) s6.2.2.1) (fun s6 hs6=>?_) (fun kk hkk=>ba (fun hq=>⟨i0,by omega,j0,by omega,hkk _ ⟨j2,j3.yes k0 hkc i0 hic j0 hjc (by unfold ja;simp only[a0b,a0r]at hq;exact hq.1) (by unfold ja;simp only[a0b,a0r]at hq;exact hq.2)⟩⟩) (fun hq=>hkk _ ⟨j2,j3.no k0 hkc i0 hic j0 hjc (fun hh=>by unfold ja at hh;rw[hh.1,hh.2]at hq;cases hq)⟩))⟩;intros;exact⟨by rw[au];(try dsimp only);omega,hn5 _ ⟨by dsimp only;omega,by dsimp only;omega,hs6⟩ (by first|omega|(dsimp only;omega))⟩
 ·have hy:=ko (n:=n) hnx.1 (by rw[au];(try dsimp only);omega);have hn1':1<=n:=by have:=a4a hg;omega
  have hy2:=hy.2.2.1 hn1';have lr:=lr hn1';exact⟨by rw[au];(try dsimp only);omega,by omega,by omega,hnx.1.2,hy.2.1,by omega,hk _ ⟨hy.1,hK.set1 (by omega) (by omega) (by omega) (by omega)⟩⟩
 ·skip
  refine bq (fun (s:cfa)=>0<=s.1.2.2.1/\s.1.2.2.1<=n/\cn s.2.1/\WkP n s.1.2.2.1 s.2.2.1) (fun (s:cfa)=>(n-s.1.2.2.1).toNat) ?_ ⟨by simp,by (try dsimp only);omega,hs⟩;rintro⟨⟨_,_,k,_⟩,s3,m3,_⟩ next3 ⟨k0,k1,k2,k3⟩ hn3;intros
  try dsimp only at k0 k1 k2 k3 hn3⊢
  refine bd (fun hkc=>?_) (fun hkc=>⟨k2,k3.1,k3.pre (by omega)⟩);refine bq (fun (s:cfa)=>0<=s.1.2.2.1/\s.1.2.2.1<=n/\cn s.2.1/\WjP n k s.1.2.2.1 0 s.2.2.1) (fun (s:cfa)=>(n-s.1.2.2.1).toNat) ?_ ⟨by simp,by (try dsimp only);omega,k2,k3.go⟩;rintro⟨⟨_,_,i,_⟩,s4,m4,_⟩ next4 ⟨i0,i1,i2,i3⟩ hn4;intros
  try dsimp only at i0 i1 i2 i3 hn4⊢
  refine bd (fun hic=>?_) (fun hic=>⟨by rw[au];(try dsimp only);omega,hn3 _ ⟨by dsimp only;omega,by dsimp only;omega,i2,WjP.fin (by rw[show i=n by omega]at i3;exact i3) k0 hkc⟩ (by first|omega|(dsimp only;omega))⟩);refine bq (fun (s:cfa)=>0<=s.1.2.2.1/\s.1.2.2.1<=n/\cn s.2.1/\WjP n k i s.1.2.2.1 s.2.2.1) (fun (s:cfa)=>(n-s.1.2.2.1).toNat) ?_ ⟨by simp,by (try dsimp only);omega,i2,i3⟩;rintro⟨⟨_,_,j,_⟩,s5,m5,_⟩ next5 ⟨j0,j1,j2,j3⟩ hn5;intros
  try dsimp only at j0 j1 j2 j3 hn5⊢
  refine bd (fun hjc=>?_) (fun hjc=>⟨by rw[au];(try dsimp only);omega,hn4 _ ⟨by dsimp only;omega,by dsimp only;omega,j2,WjP.row (by rw[show j=n by omega]at j3;exact j3)⟩ (by first|omega|(dsimp only;omega))⟩);have l1:=j3.1.l;have l2:=j3.1.row i0 hic;have l3:=j3.1.row k0 hkc;refine⟨i0,by omega,k0,by omega,fun _=>⟨by omega,k0⟩,fun _=>⟨by omega,j0⟩,cz (fun s6=>cn s6.2.1/\WjP n k i (j+1) s6.2.2.1) (fun s6 hs6=>?_) (fun kk hkk=>ba (fun hq=>⟨i0,by omega,j0,by omega,hkk _ ⟨j2,j3.yes k0 hkc i0 hic j0 hjc (by unfold ja;simp only[a0b,a0r]at hq;exact hq.1) (by unfold ja;simp only[a0b,a0r]at hq;exact hq.2)⟩⟩) (fun hq=>hkk _ ⟨j2,j3.no k0 hkc i0 hic j0 hjc (fun hh=>by unfold ja at hh;rw[hh.1,hh.2]at hq;cases hq)⟩))⟩;intros;exact⟨by rw[au];(try dsimp only);omega,hn5 _ ⟨by dsimp only;omega,by dsimp only;omega,hs6⟩ (by first|omega|(dsimp only;omega))⟩
 ·exfalso;simp only[a0b]at hx;exact hg hx.1
theorem xi(s:ac)(n:Int):∃q:ac×(ce2×Unit),ab (dr.o.strip.oks s)->ab (okL dr.as (n,()))->ab (dr.pre s (n,()))->xl s n (fun z r=>z=q.1/\r=q.2)/\ab (dr.o.strip.oks q.1)/\ab (okR dr.rt q.2)/\uh s n q.1 q.2.1:=pkw (ae df az) bg 141 Tryz.f141 dr ahb [(12,1600),(13,8000060007)] gz (fun x y K=>xl x y.1 K) (fun x y z r=>uh x y.1 z r.1) (fun x y h1 h2 h3=>atm x y.1 h1 h2 h3) s (n,())
def pz(s:ac)(n:Int):ac:=(xi s n).choose.1
def gf(s:ac)(n:Int):List (List Int):=(xi s n).choose.2.1
theorem ajo(s:ac)(n:Int)(hok:ab (dr.o.strip.oks s))(hok2:ab (okL dr.as (n,())))(hpre:ab (dr.pre s (n,()))):ab (dr.o.strip.oks (pz s n))/\ab (okR dr.rt (gf s n,()))/\uh s n (pz s n) (gf s n):=((xi s n).choose_spec hok hok2 hpre).2
def ahc:Wt:=⟨oc,[bc],[false],fun x y=>[cn x,0<=y.1,y.1<=8],fun x y=>(pz x y.1),[(false,vp)],fun x y=>((gf x y.1),()),0⟩
def aj0:Ct:=vr ahc
theorem ahd:bw Tryz.prog 141 aj0:=wtb (ae df az) bg 141 Tryz.f141 ahc ahb [(12,1600),(13,8000060007)] (fun x y h1 h2 h3=>Eq.mp (by kernel_rfl) ((xi x y.1).choose_spec h1 h2 h3).1)
theorem bbk{s:ac}{n:Int}(h:cn s)(n1:0<=n)(n8:n<=8):cn (pz s n)/\RowP n (gf s n)/\(T.sl ed).ok (gf s n):=by obtain⟨_,h2,h3⟩:=ajo s n h.1 (by simp only[dr,okL,T.oks,ap,ab,a0c,au];omega) ⟨h,n1,n8,trivial⟩;exact⟨h3.1,h3.2.1,h2.1⟩
theorem auu{s:ac}{n:Int}(h:cn s)(n1:0<=n)(n8:n<=8):PreP (gf s n):=(ajo s n h.1 (by simp only[dr,okL,T.oks,ap,ab,a0c,au];omega) ⟨h,n1,n8,trivial⟩).2.2.2.2
theorem ayi{c:aa}(S:ShapeP c):TyP c:=⟨S.ob.1,S.lt,S.li,S.lc,S.row,fun f f0 f1=>⟨(S.frm f0 f1).1,(S.frm f0 f1).2.1⟩,fun f f0 f1=>(S.frm f0 f1).2.2,fun x x0 x1=>by have h:=S.idn x0 x1;exact⟨h.1,h.2.1,S.idt x x0 x1⟩,fun f g f0 f1 g0 g1 e=>S.yes f0 f1 g0 g1 e,fun f g f0 f1 g0 g1 e=>S.no f0 f1 g0 g1 e⟩
theorem auw{c:aa}(h:yy c=true):TyP c:=ayi (acn.1 h)
theorem av7{t:List (List Int)}(h:TblR t):TyP (adn t):=by
 have lo:=h.lo;have hl:(adn t).2.1.length=t.length:=a05;have hz:∀f:Int,0<=f->f<t.length->(List.replicate t.length (0:Int)).getD f.toNat 0=0:=fun f f0 f1=>al1 f0 f1;have gr:∀f:Int,0<=f->f<t.length->(t.getD f.toNat []).length=t.length:=fun f f0 f1=>h.row f0 f1;have gc:∀f g:Int,0<=f->f<t.length->0<=g->g<t.length->0<=bi (adn t) f g/\bi (adn t) f g<t.length:=fun f g f0 f1 g0 g1=>by have hm:=cp t [] f0 f1;have hx:=cp (t.getD f.toNat []) 0 g0 (by rw[gr f f0 f1];exact g1);exact⟨(h.en _ hm _ hx).1,h.cl _ hm _ hx⟩
 refine⟨by show (0:Int)<=1;decide,by show (List.replicate t.length (0:Int)).length=_;rfl,rfl,by show t.length=_;rw[hl],fun f f0 f1=>?_,fun f f0 f1=>?_,fun f f0 f1=>?_,fun x x0 x1=>?_,fun f g f0 f1 g0 g1 e=>?_,fun f g f0 f1 g0 g1 e=>?_⟩
 ·rw[hl]at f1⊢;exact gr f f0 f1
 ·rw[hl]at f1;show 0<=(List.replicate t.length (0:Int)).getD f.toNat 0/\(List.replicate t.length (0:Int)).getD f.toNat 0<1;rw[hz f f0 f1];omega
 ·rw[hl]at f1;show 0<=(List.replicate t.length (0:Int)).getD f.toNat 0/\(List.replicate t.length (0:Int)).getD f.toNat 0<1;rw[hz f f0 f1];omega
 ·have hx:x=0:=by have:x<1:=x1;omega
  subst hx;rw[hl];show (0:Int)<=0/\(0:Int)<t.length/\(List.replicate t.length (0:Int)).getD (0:Int).toNat 0=0/\(List.replicate t.length (0:Int)).getD (0:Int).toNat 0=0;rw[hz 0 (a02 _) (by omega)];exact⟨a02 _,by omega,rfl,rfl⟩
 ·rw[hl]at f1 g1⊢;have:=gc f g f0 f1 g0 g1;refine⟨this.1,this.2,?_,?_⟩
  ·show (List.replicate t.length (0:Int)).getD _ 0=(List.replicate t.length (0:Int)).getD _ 0;rw[hz _ this.1 this.2,hz f f0 f1]
  ·show (List.replicate t.length (0:Int)).getD _ 0=(List.replicate t.length (0:Int)).getD _ 0;rw[hz _ this.1 this.2,hz g g0 g1]
 ·rw[hl]at f1 g1;exfalso;apply e;show (List.replicate t.length (0:Int)).getD _ 0=(List.replicate t.length (0:Int)).getD _ 0;rw[hz f f0 f1,hz g g0 g1]
def bv7(rel:List (List Int)):Bool:=jv rel.length fun i=>decide (ja rel i i=1)&&jv rel.length fun j=>jv rel.length fun k=>!(decide (ja rel i j=1)&&decide (ja rel j k=1))||decide (ja rel i k=1)
theorem alu{rel:List (List Int)}(h:bv7 rel=true):PreP rel:=by simp only[bv7,ov,a0b,a0w]at h;refine⟨fun i i0 i1=>(h i i0 i1).1,fun i j k i0 i1 j0 j1 k0 k1 h1 h2=>?_⟩;have:=(h i i0 i1).2 j j0 j1 k k0 k1;rw[a1p h1,a1p h2]at this;simpa using this
def lj:Ct:=⟨[],[],fun x=>[],[(true,iw)],fun _=>dfR _,false,none⟩
def xk(r0:aa):Prop:=CgR 5 r0/\TyP r0
def xo(K:aa×Unit->Prop):Prop:=K ((2,[0,1,0,0,1],[0,1,0,1,0],[0,1],[[0,-1,2,3,-1],[-1,1,-1,-1,4],[2,-1,2,3,-1],[-1,3,-1,-1,2],[4,-1,4,1,-1]]),())
theorem bbr(hok:ab (okL lj.args (())))(hpre:ab (lj.pre (()))):xo (fun r=>xk r.1):=by
 simp only[lj,okL,T.oks,T.ok,ap,ab,a0f,a0c,a0g]at hok hpre
 try dsimp only[T.den]at hok hpre
 unfold xo xk;exact⟨⟨by decide,by decide,by decide,by decide,by decide,by decide,by decide,by decide,by decide,by decide,by decide⟩,auw (by decide)⟩
theorem agu:∃q:aa×Unit,ab (okL lj.args (()))->ab (lj.pre (()))->xo (fun r=>r=q)/\ab (okR lj.rt q)/\xk q.1:=pkb az bg 130 Tryz.f130 lj .n [] (fun x K=>xo K) (fun x r=>xk r.1) (fun x h1 h2=>bbr h1 h2) (())
def sg:aa:=(agu).choose.1
theorem an9(hok:ab (okL lj.args (())))(hpre:ab (lj.pre (()))):ab (okR lj.rt (sg,()))/\xk (sg):=((agu).choose_spec hok hpre).2
def abu:Ct:=⟨[],[],fun x=>[],[(true,iw)],fun x=>((sg),()),false,none⟩
theorem aaf:bw Tryz.prog 130 abu:=ctb az bg 130 Tryz.f130 abu .n [] (fun x K=>xo K) (fun x h1 h2=>((agu).choose_spec h1 h2).1)
def axs(f j g:Int):Nat:=if g<f then 0 else if g=f then j.toNat else 0
def abk(c:aa)(k f j:Int):List (List Int):=bh c.2.1.length fun g=>c.2.2.2.2.getD g.toNat []++List.replicate (if g<f then k.toNat else axs f j g) (-1)
def asy(m h:Int):Int:=if 0<=h then h+m else h
def apd(c d:aa)(f:Int):List Int:=List.replicate c.2.1.length (-1)++bh d.2.1.length fun g=>asy c.2.1.length ((d.2.2.2.2.getD f.toNat []).getD g.toNat 0)
def qg(l e:List Int)(n:Nat)(p:Int):List Int:=l++bh n fun y=>e.getD y.toNat 0+p
def p9(c d:aa):aa:=(c.1+d.1,(qg c.2.1 d.2.1 d.2.1.length c.1,(qg c.2.2.1 d.2.2.1 d.2.1.length c.1,(qg c.2.2.2.1 d.2.2.2.1 d.1.toNat c.2.1.length,abk c d.2.1.length c.2.1.length 0++bh d.2.1.length (apd c d)))))
theorem ya{c:aa}{k f j:Int}:(abk c k f j).length=c.2.1.length:=bj _
theorem ayo{c:aa}{k f j g:Int}(g0:0<=g)(g1:g<c.2.1.length):(abk c k f j).getD g.toNat []=c.2.2.2.2.getD g.toNat []++List.replicate (if g<f then k.toNat else axs f j g) (-1):=d6 g0 g1
theorem bwf{c:aa}{k f j:Int}(f0:0<=f)(f1:f<c.2.1.length)(j0:0<=j):(abk c k f j).set f.toNat ((abk c k f j).getD f.toNat []++[-1])=abk c k f (j+1):=by
 rw[ayo f0 f1];unfold abk;rw[alr f0 f1];refine fw fun i i0 i1=>?_;by_cases e:i=f
 ·subst e;rw[a0a rfl,ds (a1b _),ds (a1b _)];unfold axs;rw[ds (a1b _),a0a rfl,ds (a1b _),a0a rfl,a01,show (j+1).toNat=j.toNat+1 from by omega,a32]
 ·rw[ds e];unfold axs;by_cases h:i<f
  ·rw[a0a h,a0a h]
  ·rw[ds h,ds h,ds e,ds h,ds h,ds e]
theorem bs0{c:aa}{k f:Int}:abk c k f k=abk c k (f+1) 0:=by
 refine fw fun i i0 i1=>?_;unfold axs;by_cases h:i<f
 ·rw[a0a h,a0a (by omega)]
 ·by_cases e:i=f
  ·rw[ds h,ds h,a0a e,a0a (by omega)]
  ·rw[ds h,ds h,ds e,ds (by omega),ds (by omega)];split<;>rfl
theorem cc9{c:aa}{k:Int}(h:c.2.2.2.2.length=c.2.1.length):abk c k 0 0=c.2.2.2.2:=by
 conv=>rhs;rw[←bix [] c.2.2.2.2]
 unfold abk;rw[h];refine fw fun i i0 i1=>?_;unfold axs;rw[ds (by omega),ds (by omega)];have:(if i=0 then (0:Int).toNat else 0)=0:=by split<;>rfl
 rw[this];exact a2e _
theorem rz{l e:List Int}{n:Nat}{p:Int}:(qg l e n p).length=l.length+n:=by unfold qg;rw[a0m,bj]
theorem bi4{l e:List Int}{y p:Int}(h:0<=y):qg l e y.toNat p++[e.getD y.toNat 0+p]=qg l e (y+1).toNat p:=by unfold qg;rw[kq h,a01]
theorem bdc{l e:List Int}{n:Nat}{p a b:Int}(hl:∀x∈l,0<=x/\x<=a)(he:∀x∈e,0<=x/\x<=b)(hn:n<=e.length)(p0:0<=p)(p1:p<=a)(b0:0<=b):∀x∈qg l e n p,0<=x/\x<=a+b:=by
 intro x hx;rcases a07.1 hx with h|h
 ·have:=hl x h;omega
 ·obtain⟨i,i0,i1,rfl⟩:=lp.1 h;have:=he _ (cp e 0 i0 (by omega));omega
theorem cbl{a b:Int}{c d:aa}(h:CgR a c)(g:CgR b d):CgR (a+b) (p9 c d):=by
 have a1:=h.b1;have a2:=h.ob0;have a3:=h.ob;have a4:=h.m;have a5:=h.lt;have a6:=h.li;have a7:=h.lc;have b1:=g.b1;have b2:=g.ob0;have b3:=g.ob;have b4:=g.m;have b5:=g.lt;have b6:=g.li;have b7:=g.lc;refine⟨by omega,by show 0<=c.1+d.1;omega,by show c.1+d.1<=a+b;omega,?_,?_,?_,?_,bdc h.fr g.fr (a0k _) a2 a3 (by omega),bdc h.to g.to (by omega) a2 a3 (by omega),bdc h.id g.id (by omega) (by omega) (by omega) (by omega),?_⟩
 ·show ((qg _ _ _ _).length:Int)<=a+b;rw[rz];omega
 ·show (qg _ _ _ _).length=(qg _ _ _ _).length;rw[rz,rz];omega
 ·show ((qg _ _ _ _).length:Int)=c.1+d.1;rw[rz];omega
 ·show (_++_:List (List Int)).length=(qg _ _ _ _).length;rw[rz,a0m,ya,bj]
 ·intro r hr;have hl:(p9 c d).2.1.length=c.2.1.length+d.2.1.length:=rz;rw[hl];rcases a07.1 hr with hr|hr
  ·obtain⟨i,i0,i1,rfl⟩:=lp.1 hr;have hh:=h.row _ (cp c.2.2.2.2 [] i0 (by omega));rw[a0a i1];refine⟨by rw[a0m,a05,hh.1,a0y],fun x hx=>?_⟩;rcases a07.1 hx with hx|hx
   ·have:=hh.2 x hx;omega
   ·rw[a34 hx];omega
  ·obtain⟨i,i0,i1,rfl⟩:=lp.1 hr;have hh:=g.row _ (cp d.2.2.2.2 [] i0 (by omega));unfold apd;refine⟨by rw[a0m,a05,bj],fun x hx=>?_⟩;rcases a07.1 hx with hx|hx
   ·rw[a34 hx];omega
   ·obtain⟨j,j0,j1,rfl⟩:=lp.1 hx;have:=hh.2 _ (cp _ 0 j0 (by rw[hh.1];exact j1));unfold asy;split<;>omega
def il:Ct:=⟨[bp,bp],[true,true],fun x=>[CgR 1000000000000 x.1,CgR 1000000000000 x.2.1],[(true,iw)],fun _=>dfR _,false,none⟩
def aa8(c d r0:aa):Prop:=r0=p9 c d/\∀a b:Int,CgR a c->CgR b d->CgR (a+b) r0
def apu:Ann:=(.s .n (.s .n (.s .n (.s .n (.s (.s .n (.l byp aon [3,5,6] .n)) (.s (.s .n (.l byl aon [3,5,6] (.s .n (.s (.s .n (.l bxv aon [3,5,6,9] .n)) .n)))) (.s (.s .n (.l bxe aon [3,5,6] (.s .n (.s (.s .n (.s .n (.s .n (.s (.s .n (.l byc avw [3,5,6,11] .n)) (.s (.s .n (.l bx7 avw [3,5,6,11] (.s .n (.s (.s .n (.s (.s .n (.j bxi avw [3,5,6,11,14] .n)) .n)) .n)))) .n))))) .n)))) .n)))))))
def aa5(c d:aa)(K:aa×Unit->Prop):Prop:=let a6:=d.2.1.length;let x:=c.2.1.length;OwcR c/\(Ik (c.1+d.1)<|bn (S:=(cex×ce1)) (fun a b=>let a4:=a.2.2.1;let a3:=a.1.2.2.1;let w:=d.2.2.2.1.getD a3.toNat 0;Iq a3<|Oc a.2.1<|Oc a4<|cnd (decide (a3<d.1)) (Ix a3 d.2.2.2.1.length<|Ik (w+(x:Int))<|c9 a4.2.2.2.1.length [w+(x:Int)].length 8/\(Ik (a3+1)<|b (((),(),a3+1,()),a.2.1,(a4.1,a4.2.1,a4.2.2.1,a4.2.2.2.1++[w+(x:Int)],a4.2.2.2.2),()))) (bn (S:=(cex×ce1)) (fun e f=>let v:=e.1.2.2.1;Iq v<|Oc e.2.1<|Oc e.2.2.1<|cnd (decide (v<(e.2.2.1.2.2.2.2.length:Int))) (bn (S:=(cex×ce1)) (fun g h=>let b2:=g.1.2.2.1;let a0:=g.2.2.1;let b1:=anh a0.2.2.2.2 v.toNat;let a9:=a0.2.2.2.2.getD v.toNat [];let t:=List.set b1 v.toNat (Option.some (a9++[-1]));Iq b2<|Oc g.2.1<|Oc a0<|cnd (decide (b2<(a6:Int))) (Ix v a0.2.2.2.2.length<|c9 a9.length [-1].length 8/\(Ix v b1.length<|ayj t=true/\(Ik (b2+1)<|h (((),(),b2+1,()),g.2.1,(a0.1,a0.2.1,a0.2.2.1,a0.2.2.2.1,ao7 [] t),())))) (Ik (v+1)<|f (((),(),v+1,()),g.2.1,a0,()))) (((),(),0,()),e.2.1,e.2.2.1,())) (bn (S:=(cex×ce1)) (fun i j=>let a5:=i.2.2.1;let u:=i.1.2.2.1;let b0:=d.2.2.2.2.getD u.toNat [];let a2:=d.2.1.getD u.toNat 0;let z:=d.2.2.1.getD u.toNat 0;Iq u<|Oc i.2.1<|Oc a5<|cnd (decide (u<(a6:Int))) (Ix u a6<|Ik (a2+c.1)<|c9 a5.2.1.length [a2+c.1].length 8/\(Ix u d.2.2.1.length<|Ik (z+c.1)<|c9 a5.2.2.1.length [z+c.1].length 8/\bn (S:=ce3) (fun l m=>let b3:=l.2.2.2.1;let a8:=l.1.2.2.2.1;Iq a8<|Oc l.2.1<|Oc l.2.2.1<|Ol b3<|cnd (decide (a8<(x:Int))) (c9 b3.length [-1].length 8/\(Ik (a8+1)<|m (((),(),(),a8+1,()),l.2.1,l.2.2.1,b3++[-1],()))) (bn (S:=ce3) (fun n o=>let a7:=n.2.2.2.1;let a1:=n.2.2.1;let y:=n.1.2.2.2.1;let r:=b0.getD y.toNat 0;Iq y<|Oc n.2.1<|Oc a1<|Ol a7<|cnd (decide (y<(a6:Int))) (Ix u d.2.2.2.2.length<|Ix y b0.length<|dk (S:=ce3) (fun p=>Iq p.1.2.2.2.1<|Oc p.2.1<|Oc p.2.2.1<|Ol p.2.2.2.1<|c9 p.2.2.2.1.length [p.1.2.2.2.1].length 8/\(Ik (y+1)<|o (((),(),(),y+1,()),p.2.1,p.2.2.1,p.2.2.2.1++[p.1.2.2.2.1],()))) (fun q=>cnd (decide (0<=r)) (Ik (r+(x:Int))<|q (((),(),(),r+(x:Int),()),n.2.1,a1,a7,())) (q (((),(),(),r,()),n.2.1,a1,a7,())))) (c9 a1.2.2.2.2.length [a7].length 24/\(Ik (u+1)<|j (((),(),u+1,()),n.2.1,(a1.1,a1.2.1,a1.2.2.1,a1.2.2.2.1,a1.2.2.2.2++[a7]),())))) (((),(),(),0,()),l.2.1,l.2.2.1,b3,()))) (((),(),(),0,()),i.2.1,(a5.1,a5.2.1++[a2+c.1],a5.2.2.1++[z+c.1],a5.2.2.2),[],()))) (K (a5,()))) (((),(),0,()),e.2.1,e.2.2.1,()))) (((),(),0,()),a.2.1,a4,()))) (((),(),0,()),(0,[],[],[],[]),(c.1+d.1,c.2),()))
theorem bg0(c d:aa)(hok:ab (okL il.args (c,d,())))(hpre:ab (il.pre (c,d,()))):aa5 c d (fun r=>aa8 c d r.1):=by
 simp only[il,okL,T.oks,T.ok,ap,ab,a0f,a0c,a0g]at hok hpre
 try dsimp only[T.den]at hok hpre
 delta aa5 aa8 Ik Iq Ix Oc Ol Om
 dsimp -proj -eta only;obtain⟨Hc,Hd⟩:=hpre;have a2:=Hc.ob0;have a3:=Hc.ob;have a4:=Hc.m;have a5:=Hc.lt;have a6:=Hc.li;have a7:=Hc.lc;have b2:=Hd.ob0;have b3:=Hd.ob;have b4:=Hd.m;have b5:=Hd.lt;have b6:=Hd.li;have b7:=Hd.lc;clear hok;refine⟨btx Hc (a02 _),by rw[au];(try dsimp only);omega,?_⟩;refine bq (fun (s:(cex×ce1))=>0<=s.1.2.2.1/\s.1.2.2.1<=d.1/\s.2.2.1=(c.1+d.1,(c.2.1,(c.2.2.1,(qg c.2.2.2.1 d.2.2.2.1 s.1.2.2.1.toNat c.2.1.length,c.2.2.2.2))))) (fun (s:(cex×ce1))=>(d.1-s.1.2.2.1).toNat) ?_ ⟨by simp,b2,by simp[qg,bh]⟩;rintro⟨⟨_,_,y,_⟩,o1,out,_⟩ next ⟨y0,y1,hq⟩ hnx _ _ _ _ _ _ _ _ _ _ _
 try dsimp only at y0 y1 hq hnx⊢
 subst hq;refine bd (fun hy=>?_) (fun hy=>?_)
 ·have:=Hd.idG y0 hy;exact⟨y0,by omega,by rw[au];(try dsimp only);omega,ck (by dsimp only;rw[rz];simp only[a0h,a0i];omega),by rw[au];(try dsimp only);omega,hnx _ ⟨(by first|omega|(dsimp only;omega)),(by first|omega|(dsimp only;omega)),by dsimp only;rw[bi4 y0]⟩ (by first|omega|(dsimp only;omega))⟩
 have ey:y=d.1:=by omega
 subst ey;refine bq (fun (s:(cex×ce1))=>0<=s.1.2.2.1/\s.1.2.2.1<=c.2.1.length/\s.2.2.1=(c.1+d.1,(c.2.1,(c.2.2.1,(qg c.2.2.2.1 d.2.2.2.1 d.1.toNat c.2.1.length,abk c d.2.1.length s.1.2.2.1 0))))) (fun (s:(cex×ce1))=>(c.2.1.length-s.1.2.2.1).toNat) ?_ ⟨by simp,by simp,by dsimp only;rw[cc9 a7]⟩;rintro⟨⟨_,_,f,_⟩,o2,out,_⟩ next1 ⟨f0,f1,hq⟩ hn1 _ _ _ _ _ _ _ _ _ _ _
 try dsimp only at f0 f1 hq hn1⊢
 subst hq;refine bd (fun hf=>?_) (fun hf=>?_)
 ·rw[ya]at hf;refine bq (fun (s:(cex×ce1))=>0<=s.1.2.2.1/\s.1.2.2.1<=d.2.1.length/\s.2.2.1=(c.1+d.1,(c.2.1,(c.2.2.1,(qg c.2.2.2.1 d.2.2.2.1 d.1.toNat c.2.1.length,abk c d.2.1.length f s.1.2.2.1))))) (fun (s:(cex×ce1))=>(d.2.1.length-s.1.2.2.1).toNat) ?_ ⟨by simp,by simp,rfl⟩;rintro⟨⟨_,_,g,_⟩,o3,out,_⟩ next2 ⟨g0,g1,hq⟩ hn2 _ _ _ _ _ _ _ _ _ _ _
  try dsimp only at g0 g1 hq hn2⊢
  subst hq;refine bd (fun hg=>?_) (fun hg=>?_)
  ·have hr:=Hc.rowG f0 hf;have hl:((abk c d.2.1.length f g).getD f.toNat []).length=c.2.1.length+g.toNat:=by rw[ayo f0 hf,a0m,a05,hr,ds (a1b _),axs,ds (a1b _),a0a rfl]
   try dsimp only
   refine⟨f0,by rw[ya];exact hf,ck (by rw[hl];simp only[a0h,a0i];omega),f0,by rw[cag,ya];exact hf,by6,by rw[au];(try dsimp only);omega,hn2 _ ⟨(by first|omega|(dsimp only;omega)),(by first|omega|(dsimp only;omega)),?_⟩ (by first|omega|(dsimp only;omega))⟩
   try dsimp only
   rw[bz6,bwf f0 hf g0]
  ·have eg:g=d.2.1.length:=by omega
   subst eg;exact⟨by rw[au];(try dsimp only);omega,hn1 _ ⟨(by first|omega|(dsimp only;omega)),(by first|omega|(dsimp only;omega)),by dsimp only;rw[bs0]⟩ (by first|omega|(dsimp only;omega))⟩
 rw[ya]at hf;have ef:f=c.2.1.length:=by omega
 subst ef;refine bq (fun (s:(cex×ce1))=>0<=s.1.2.2.1/\s.1.2.2.1<=d.2.1.length/\s.2.2.1=(c.1+d.1,(qg c.2.1 d.2.1 s.1.2.2.1.toNat c.1,(qg c.2.2.1 d.2.2.1 s.1.2.2.1.toNat c.1,(qg c.2.2.2.1 d.2.2.2.1 d.1.toNat c.2.1.length,abk c d.2.1.length c.2.1.length 0++bh s.1.2.2.1.toNat (apd c d)))))) (fun (s:(cex×ce1))=>(d.2.1.length-s.1.2.2.1).toNat) ?_ ⟨by simp,by simp,by simp[qg,bh]⟩;rintro⟨⟨_,_,f,_⟩,o3,out,_⟩ next2 ⟨f0,f1,hq⟩ hn2 _ _ _ _ _ _ _ _ _ _ _
 try dsimp only at f0 f1 hq hn2⊢
 subst hq;refine bd (fun hf=>?_) (fun hf=>?_)
 ·have h1:=Hd.frG f0 hf;have h2:=Hd.toG f0 hf;have h3:=Hd.rowG f0 hf;refine⟨f0,hf,by rw[au];(try dsimp only);omega,ck (by dsimp only;rw[rz];simp only[a0h,a0i];omega),f0,by omega,by rw[au];(try dsimp only);omega,ck (by dsimp only;rw[rz];simp only[a0h,a0i];omega),?_⟩;refine bq (fun (s:ce3)=>0<=s.1.2.2.2.1/\s.1.2.2.2.1<=c.2.1.length/\s.2.2.1=(c.1+d.1,(qg c.2.1 d.2.1 (f+1).toNat c.1,(qg c.2.2.1 d.2.2.1 (f+1).toNat c.1,(qg c.2.2.2.1 d.2.2.2.1 d.1.toNat c.2.1.length,abk c d.2.1.length c.2.1.length 0++bh f.toNat (apd c d)))))/\s.2.2.2.1=List.replicate s.1.2.2.2.1.toNat (-1)) (fun (s:ce3)=>(c.2.1.length-s.1.2.2.2.1).toNat) ?_ ⟨by simp,by simp,by dsimp only;rw[bi4 f0,bi4 f0],rfl⟩;rintro⟨⟨_,_,_,g,_⟩,o4,out,row,_⟩ next3 ⟨g0,g1,hq,hr⟩ hn3 _ _ _ _ _ _ _ _ _ _ _ _
  try dsimp only at g0 g1 hq hr hn3⊢
  subst hr;refine bd (fun hg=>?_) (fun hg=>?_)
  ·exact⟨ck (by rw[a05];simp only[a0h,a0i];omega),by rw[au];(try dsimp only);omega,hn3 _ ⟨(by first|omega|(dsimp only;omega)),(by first|omega|(dsimp only;omega)),hq,by dsimp only;rw[show (g+1).toNat=g.toNat+1 from by omega,a32]⟩ (by first|omega|(dsimp only;omega))⟩
  have eg:g=c.2.1.length:=by omega
  subst eg;refine bq (fun (s:ce3)=>0<=s.1.2.2.2.1/\s.1.2.2.2.1<=d.2.1.length/\s.2.2.1=out/\s.2.2.2.1=List.replicate c.2.1.length (-1)++bh s.1.2.2.2.1.toNat fun g=>asy c.2.1.length ((d.2.2.2.2.getD f.toNat []).getD g.toNat 0)) (fun (s:ce3)=>(d.2.1.length-s.1.2.2.2.1).toNat) ?_ ⟨by simp,by simp,rfl,by simp[bh]⟩;rintro⟨⟨_,_,_,g,_⟩,o5,out2,row,_⟩ next4 ⟨g0,g1,hq2,hr⟩ hn4 _ _ _ _ _ _ _ _ _ _ _ _
  try dsimp only at g0 g1 hq2 hr hn4⊢
  subst hr;subst hq2;refine bd (fun hg=>?_) (fun hg=>?_)
  ·have hc:=Hd.cel f0 hf g0 hg;refine⟨f0,by omega,g0,by omega,cz (fun (q:ce3)=>q.1.2.2.2.1=asy c.2.1.length ((d.2.2.2.2.getD f.toNat []).getD g.toNat 0)/\q.2.2.1=out2/\q.2.2.2.1=List.replicate c.2.1.length (-1)++bh g.toNat fun g=>asy c.2.1.length ((d.2.2.2.2.getD f.toNat []).getD g.toNat 0)) ?_ ?_⟩
   ·rintro⟨⟨_,_,_,h,_⟩,o6,out3,row,_⟩ ⟨q1,q2,q3⟩ _ _ _ _ _ _ _ _ _ _ _ _
    try dsimp only at q1 q2 q3⊢
    subst q1;subst q2;subst q3;refine⟨ck (by rw[a0m,a05,bj];simp only[a0h,a0i];omega),by rw[au];(try dsimp only);omega,hn4 _ ⟨(by first|omega|(dsimp only;omega)),(by first|omega|(dsimp only;omega)),rfl,?_⟩ (by first|omega|(dsimp only;omega))⟩
    try dsimp only
    rw[kq g0,a01]
   ·intro k hk;refine bd (fun hh=>⟨by rw[au];(try dsimp only);omega,hk _ ⟨?_,rfl,rfl⟩⟩) (fun hh=>hk _ ⟨?_,rfl,rfl⟩)
    ·try dsimp only;unfold asy;rw[a0a hh]
    ·try dsimp only;unfold asy;rw[ds hh]
  ·have eg:g=d.2.1.length:=by omega
   subst eg;subst hq
   try dsimp only
   refine⟨ck (by rw[a0m,ya,bj];simp only[a0h,a0i];omega),by rw[au];(try dsimp only);omega,hn2 _ ⟨(by first|omega|(dsimp only;omega)),(by first|omega|(dsimp only;omega)),?_⟩ (by first|omega|(dsimp only;omega))⟩
   try dsimp only
   rw[kq f0,←a01];rfl
 have ef:f=d.2.1.length:=by omega
 subst ef;exact⟨rfl,fun a b h1 h2=>cbl h1 h2⟩
theorem ako(c d:aa):∃q:aa×Unit,ab (okL il.args (c,d,()))->ab (il.pre (c,d,()))->aa5 c d (fun r=>r=q)/\ab (okR il.rt q)/\aa8 c d q.1:=pkb (ae y8 az) bg 121 Tryz.f121 il apu [(1,6),(18,510),(19,510),(7,510),(14,85008)] (fun x K=>aa5 x.1 x.2.1 K) (fun x r=>aa8 x.1 x.2.1 r.1) (fun x h1 h2=>bg0 x.1 x.2.1 h1 h2) (c,d,())
def k8(c d:aa):aa:=(ako c d).choose.1
theorem as8(c d:aa)(hok:ab (okL il.args (c,d,())))(hpre:ab (il.pre (c,d,()))):ab (okR il.rt (k8 c d,()))/\aa8 c d (k8 c d):=((ako c d).choose_spec hok hpre).2
def aj6:Ct:=⟨[bp,bp],[true,true],fun x=>[CgR 1000000000000 x.1,CgR 1000000000000 x.2.1],[(true,iw)],fun x=>((k8 x.1 x.2.1),()),false,none⟩
theorem acu:bw Tryz.prog 121 aj6:=ctb (ae y8 az) bg 121 Tryz.f121 aj6 apu [(1,6),(18,510),(19,510),(7,510),(14,85008)] (fun x K=>aa5 x.1 x.2.1 K) (fun x h1 h2=>((ako x.1 x.2.1).choose_spec h1 h2).1)
theorem bw7{a b:Int}{c d:aa}(hok:ab (okL il.args (c,d,())))(h:CgR a c)(g:CgR b d)(ha:a<=1000000000000)(hb:b<=1000000000000):CgR (a+b) (k8 c d):=(as8 c d hok ⟨h.le ha,g.le hb,trivial⟩).2.2 a b h g
theorem bui{a b:Int}{c d:aa}(hok:ab (okL il.args (c,d,())))(h:CgR a c)(g:CgR b d)(ha:a<=1000000000000)(hb:b<=1000000000000):k8 c d=p9 c d:=(as8 c d hok ⟨h.le ha,g.le hb,trivial⟩).2.1
theorem abb{x y a b:Int}(x0:0<=x)(x1:x<=a)(y0:0<=y)(y1:y<=b):0<=x*y/\x*y<=a*b:=⟨a5b x0 y0,a3q (Int.mul_le_mul_of_nonneg_right x1 y0) (Int.mul_le_mul_of_nonneg_left y1 (a3q x0 x1))⟩
structure RwB (k b:Int) (w:List Int):Prop where
 l:(w.length:Int)=k
 e:∀x∈w,-b<=x/\x<=b
theorem RwB.push{k b x:Int}{l:List Int}(h:RwB k b l)(h0:-b<=x)(h1:x<=b):RwB (k+1) b (l++[x]):=
 ⟨by rw[a0m];have:=h.l;simp only[a0h,a0i];omega,fun y hy=>by
  rcases a07.1 hy with hy|hy
  ·exact h.e y hy
  ·rw[a0s.1 hy];exact⟨h0,h1⟩⟩
structure TbB (k n b:Int) (t:List (List Int)):Prop where
 l:(t.length:Int)=k
 e:∀r∈t,RwB n b r
theorem TbB.push{k n b:Int}{t:List (List Int)}{r:List Int}(h:TbB k n b t)(hr:RwB n b r):TbB (k+1) n b (t++[r]):=
 ⟨by rw[a0m];have:=h.l;simp only[a0h,a0i];omega,fun y hy=>by
  rcases a07.1 hy with hy|hy
  ·exact h.e y hy
  ·rw[a0s.1 hy];exact hr⟩
theorem bdd{l:List Int}{p:Int->Prop}{x:Int}(h:∀y∈l,p y)(hx:p x):∀y∈l++[x],p y:=fun y hy=>by
 rcases a07.1 hy with hy|hy
 ·exact h y hy
 ·rw[a0s.1 hy];exact hx
structure RwG (G:Int->Int) (k b:Int) (w:List Int):Prop where
 r:RwB k b w
 g:w=bh k.toNat G
theorem RwG.push{G:Int->Int}{k b x:Int}{w:List Int}(h:RwG G k b w)(h0:-b<=x)(h1:x<=b)(hx:x=G k):RwG G (k+1) b (w++[x]):=⟨h.r.push h0 h1,by rw[kq (by have:=h.r.l;omega),←h.g,hx]⟩
theorem RwG.to{G:Int->Int}{k k' b:Int}{w:List Int}(h:RwG G k b w)(e:k=k'):RwG G k' b w:=e▸h
structure TbG (G:Int->List Int) (k n b:Int) (t:List (List Int)):Prop where
 r:TbB k n b t
 g:t=bh k.toNat G
theorem TbG.push{G:Int->List Int}{k n b:Int}{t:List (List Int)}{r:List Int}(h:TbG G k n b t)(hr:RwB n b r)(hx:r=G k):TbG G (k+1) n b (t++[r]):=⟨h.r.push hr,by rw[kq (by have:=h.r.l;omega),←h.g,hx]⟩
theorem TbG.to{G:Int->List Int}{k k' n b:Int}{t:List (List Int)}(h:TbG G k n b t)(e:k=k'):TbG G k' n b t:=e▸h
theorem ph{x y n:Int}(y0:0<=y)(y1:y<n):(x*n+y) / n=x/\(x*n+y)%n=y:=by
 have hn:n≠0:=by omega
 constructor
 ·rw[Int.add_comm,Int.add_mul_ediv_right _ _ hn,Int.ediv_eq_zero_of_lt y0 y1,Int.zero_add]
 ·rw[Int.add_comm,Int.add_mul_emod_self_right,Int.emod_eq_of_lt y0 y1]
def joF(r:aa)(k:Nat)(n:Int):List Int:=r.2.1++bh k fun i=>i / n
def joT(r:aa)(k:Nat)(n q:Int):List Int:=r.2.2.1++bh k fun i=>q+i%n
def joH(r:aa)(n q:Int)(F T:List Int)(f g:Int):Int:=if T.getD f.toNat 0≠F.getD g.toNat 0 then -1 else if f<r.2.1.length/\g<r.2.1.length then (r.2.2.2.2.getD f.toNat []).getD g.toNat 0 else r.2.1.length+F.getD f.toNat 0*n+T.getD g.toNat 0-q
def joW(r:aa)(n q:Int)(F T:List Int)(f:Int):List Int:=bh F.length (joH r n q F T f)
def ak3(r c d:aa):aa:=(r.1,(joF r (c.1*d.1).toNat d.1,(joT r (c.1*d.1).toNat d.1 c.1,(r.2.2.2.1,bh (joF r (c.1*d.1).toNat d.1).length (joW r d.1 c.1 (joF r (c.1*d.1).toNat d.1) (joT r (c.1*d.1).toNat d.1 c.1))))))
def bh1(c d:aa):aa:=ak3 (p9 c d) c d
structure JoC (r:aa) (n q k b:Int) (c:aa):Prop where
 ob:c.1=r.1
 lt:c.2.2.1.length=c.2.1.length
 m:(c.2.1.length:Int)<=b
 fr:∀x∈c.2.1,0<=x/\x<=128
 to:∀x∈c.2.2.1,0<=x/\x<=128
 re:c.2.2.2=r.2.2.2
 fg:c.2.1=joF r k.toNat n
 tg:c.2.2.1=joT r k.toNat n q
theorem JoC.le{r:aa}{n q k k' a b:Int}{c:aa}(h:JoC r n q k a c)(hb:a<=b)(hk:k=k'):JoC r n q k' b c:=⟨h.ob,h.lt,by have:=h.m;omega,h.fr,h.to,h.re,hk▸h.fg,hk▸h.tg⟩
theorem av4{x y:Int}:(x+1)*y=x*y+y:=by rw[Int.add_mul,Int.one_mul]
def j9:Ct:=⟨[bp,bp],[true,true],fun x=>[CgR 64 x.1,CgR 64 x.2.1],[(true,iw)],fun _=>dfR _,false,none⟩
def zh(c d r0:aa):Prop:=CgR 10000 r0/\r0=bh1 c d
def anp:Ann:=(.s .n (.s .n (.s .n (.s (.s .n (.l [(4,(.ad 4 [.de])),(5,(.ad 5 [.de])),(7,(.d bc))] [(4,gh),(5,gh)] [2,3,6] (.s .n (.s (.s .n (.l [(4,(.ad 4 [.de])),(5,(.ad 5 [.de])),(8,(.d bc))] [(4,gh),(5,gh)] [2,3,6,7] .n)) .n)))) (.s .n (.s (.s .n (.l [(4,(.ad 4 [.de])),(5,(.ad 5 [.de])),(9,(.ref 800009 [])),(10,(.d bc))] [(4,gh),(5,gh),(800009,vp)] [2,3,6] (.s .n (.s (.s .n (.s (.s .n (.l [(4,(.ad 4 [.de])),(5,(.ad 5 [.de])),(9,(.ref 800009 [])),(11,(.ref 800011 [])),(12,(.d bc))] bo9 [2,3,6,10] (.s .n (.s (.s .n (.s (.s .n (.j bx3 bo9 [2,3,6,10,12] (.s .n (.s .n (.j bx3 bo9 [2,3,6,10,12] .n))))) .n)) .n)))) .n)) .n)))) .n))))))
def zg(c d:aa)(K:aa×Unit->Prop):Prop:=let p:=(k8 c d).2.1.length;CgR 1000000000000 c/\CgR 1000000000000 d/\bn (S:=(cex×ce1)) (fun a b=>let x:=a.1.2.2.1;Iq x<|Oc a.2.1<|Oc a.2.2.1<|cnd (decide (x<c.1)) (bn (S:=(cex×ce1)) (fun e f=>let y:=e.2.2.1;let w:=e.1.2.2.1;Iq w<|Oc e.2.1<|Oc y<|cnd (decide (w<d.1)) (c9 y.2.1.length [x].length 8/\(Ik (c.1+w)<|c9 y.2.2.1.length [c.1+w].length 8/\(Ik (w+1)<|f (((),(),w+1,()),e.2.1,(y.1,y.2.1++[x],y.2.2.1++[c.1+w],y.2.2.2),())))) (Ik (x+1)<|b (((),(),x+1,()),e.2.1,y,()))) (((),(),0,()),a.2.1,a.2.2.1,())) (bn (S:=cf9) (fun g h=>let z:=g.2.2.1;let t:=g.1.2.2.2.1;Iq t<|Oc g.2.1<|Oc z<|Om g.2.2.2.1<|cnd (decide (t<(z.2.1.length:Int))) (bn (S:=cfm) (fun i j=>let u:=i.2.2;let a2:=u.1.2.1.length;let a1:=u.2.2.1;let a0:=u.1.2.2.2.2.getD t.toNat [];let r:=i.1.2.2.2.2.1;let v:=u.1.2.2.1.getD r.toNat 0;let q:=u.1.2.1.getD t.toNat 0;Iq r<|Oc i.2.1<|Oc u.1<|Om u.2.1<|Ol a1<|cnd (decide (r<(a2:Int))) (Ix t u.1.2.2.1.length<|Ix r a2<|dk (S:=cfm) (fun l=>let a4:=l.2.2.2;let a3:=l.1.2.2.2.2.1;Iq a3<|Oc l.2.1<|Oc l.2.2.1<|Om a4.1<|Ol a4.2.1<|c9 a4.2.1.length [a3].length 8/\(Ik (r+1)<|j (((),(),(),(),r+1,()),l.2.1,l.2.2.1,a4.1,a4.2.1++[a3],()))) (fun m=>cnd (u.1.2.2.1.getD t.toNat 0 != u.1.2.1.getD r.toNat 0) (m (((),(),(),(),-1,()),i.2.1,u.1,u.2.1,a1,())) (dk (S:=cfm) (fun n=>Iq n.1.2.2.2.2.1<|Oc n.2.1<|Oc n.2.2.1<|Om n.2.2.2.1<|Ol n.2.2.2.2.1<|m (((),(),(),(),n.1.2.2.2.2.1,()),n.2.1,n.2.2.1,n.2.2.2.1,n.2.2.2.2.1,())) (fun o=>cnd (decide (t<(p:Int))&&decide (r<(p:Int))) (Ix t u.1.2.2.2.2.length<|Ix r a0.length<|o (((),(),(),(),a0.getD r.toNat 0,()),i.2.1,u.1,u.2.1,a1,())) (Ix t a2<|Ik (q*d.1)<|Ik ((p:Int)+q*d.1)<|Ix r u.1.2.2.1.length<|Ik ((p:Int)+q*d.1+v)<|Ik ((p:Int)+q*d.1+v-c.1)<|o (((),(),(),(),(p:Int)+q*d.1+v-c.1,()),i.2.1,u.1,u.2.1,a1,())))))) (c9 u.2.1.length [a1].length 24/\(Ik (t+1)<|h (((),(),(),t+1,()),i.2.1,u.1,u.2.1++[a1],())))) (((),(),(),(),0,()),g.2.1,z,g.2.2.2.1,[],())) (K ((z.1,z.2.1,z.2.2.1,z.2.2.2.1,g.2.2.2.1),()))) (((),(),(),0,()),a.2.1,a.2.2.1,[],()))) (((),(),0,()),(0,[],[],[],[]),k8 c d,())
theorem bfb(c d:aa)(hok:ab (okL j9.args (c,d,())))(hpre:ab (j9.pre (c,d,()))):zg c d (fun r=>zh c d r.1):=by
 simp only[j9,okL,T.oks,T.ok,ap,ab,a0f,a0c,a0g]at hok hpre
 try dsimp only[T.den]at hok hpre
 delta zg zh Ik Iq Ix Oc Ol Om
 dsimp -proj -eta only;obtain⟨Hc,Hd⟩:=hpre;have Hs:=bw7 (c:=c) (d:=d) (by simp only[il,okL,T.oks,T.ok,ap,ab,a0f,a0c,a0g];exact hok) Hc Hd (by omega) (by omega);have He:=bui (c:=c) (d:=d) (by simp only[il,okL,T.oks,T.ok,ap,ab,a0f,a0c,a0g];exact hok) Hc Hd (by omega) (by omega);refine⟨Hc.le (by omega),Hd.le (by omega),?_⟩;clear hok;generalize k8 c d=r at *;have c0:=Hc.ob0;have c1:=Hc.ob;have d0:=Hd.ob0;have d1:=Hd.ob;have rm:=Hs.m;have rl:=Hs.lt;have rc:=Hs.lc;refine bq (fun (s:(cex×ce1))=>0<=s.1.2.2.1/\s.1.2.2.1<=c.1/\JoC r d.1 c.1 (s.1.2.2.1*d.1) (128+64*s.1.2.2.1) s.2.2.1) (fun (s:(cex×ce1))=>(c.1-s.1.2.2.1).toNat) ?_ ⟨by simp,c0,⟨rfl,rl,by (try dsimp only);omega,Hs.fr,Hs.to,rfl,by simp[joF,bh],by simp[joT,bh]⟩⟩;rintro⟨⟨_,_,x,_⟩,o1,out,_⟩ next ⟨x0,x1,hJ⟩ hnx
 intros
 try dsimp only at x0 x1 hJ hnx⊢
 refine bd (fun hx=>?_) (fun hx=>?_)
 ·refine bq (fun (s:(cex×ce1))=>0<=s.1.2.2.1/\s.1.2.2.1<=d.1/\JoC r d.1 c.1 (x*d.1+s.1.2.2.1) (128+64*x+s.1.2.2.1) s.2.2.1) (fun (s:(cex×ce1))=>(d.1-s.1.2.2.1).toNat) ?_ ⟨by simp,d0,hJ.le (by (try dsimp only);omega) (by (try dsimp only);omega)⟩;rintro⟨⟨_,_,y,_⟩,o2,out2,_⟩ next1 ⟨y0,y1,hJ2⟩ hn1;intros
  try dsimp only at y0 y1 hJ2 hn1⊢
  have jm:=hJ2.m;have jl:=hJ2.lt;refine bd (fun hy=>?_) (fun hy=>?_)
  ·refine⟨ck (by simp only[a0h,a0i];omega),by rw[au];(try dsimp only);omega,ck (by simp only[a0h,a0i];omega),by rw[au];(try dsimp only);omega,hn1 _ ⟨by dsimp only;omega,by dsimp only;omega,⟨hJ2.ob,?_,?_,bdd hJ2.fr (by omega),bdd hJ2.to (by omega),hJ2.re,?_,?_⟩⟩ (by first|omega|(dsimp only;omega))⟩
   ·try dsimp only;simp only[a0m,a0h,a0i];omega
   ·try dsimp only;simp only[a0m,a0h,a0i];omega
   ·try dsimp only
    rw[hJ2.fg];unfold joF;rw[show (x*d.1+(y+1)).toNat=((x*d.1+y)+1).toNat by omega,kq (by have:=abb x0 (b:=64) (a:=64) (by omega) d0 d1;omega),(ph y0 hy).1,a01]
   ·try dsimp only
    rw[hJ2.tg];unfold joT;rw[show (x*d.1+(y+1)).toNat=((x*d.1+y)+1).toNat by omega,kq (by have:=abb x0 (b:=64) (a:=64) (by omega) d0 d1;omega),(ph y0 hy).2,a01]
  ·exact⟨by rw[au];(try dsimp only);omega,hnx _ ⟨by dsimp only;omega,by dsimp only;omega,hJ2.le (by dsimp only;omega) (by dsimp only;rw[av4];omega)⟩ (by first|omega|(dsimp only;omega))⟩
 replace hJ:=hJ.le (b:=4224) (k':=c.1*d.1) (by omega) (by rw[show x=c.1 by omega]);clear hnx;have jm:=hJ.m;have jl:=hJ.lt;have hco:out.2.2.2.2=r.2.2.2.2:=by rw[hJ.re]
 refine bq (fun (s:cf9)=>0<=s.1.2.2.2.1/\s.1.2.2.2.1<=out.2.1.length/\s.2.2.1=out/\TbG (joW r d.1 c.1 out.2.1 out.2.2.1) s.1.2.2.2.1 out.2.1.length 10000 s.2.2.2.1) (fun (s:cf9)=>(out.2.1.length-s.1.2.2.2.1).toNat) ?_ ⟨by simp,by simp,rfl,⟨⟨rfl,by simp⟩,by simp[bh]⟩⟩;rintro⟨⟨_,_,_,f,_⟩,o2,out2,t,_⟩ next1 ⟨f0,f1,q1,hT⟩ hn1;intros
 try dsimp only at f0 f1 q1 hT hn1⊢
 subst q1;have tl:=hT.r.l;refine bd (fun hf=>?_) (fun hf=>?_)
 ·refine bq (fun (s:cfm)=>0<=s.1.2.2.2.2.1/\s.1.2.2.2.2.1<=out2.2.1.length/\s.2.2.1=out2/\s.2.2.2.1=t/\RwG (joH r d.1 c.1 out2.2.1 out2.2.2.1 f) s.1.2.2.2.2.1 10000 s.2.2.2.2.1) (fun (s:cfm)=>(out2.2.1.length-s.1.2.2.2.2.1).toNat) ?_ ⟨by simp,by simp,rfl,rfl,⟨⟨rfl,by simp⟩,by simp[bh]⟩⟩;rintro⟨⟨_,_,_,_,g,_⟩,o3,out3,t3,row,_⟩ next2 ⟨g0,g1,q1,q2,hR⟩ hn2;intros
  try dsimp only at g0 g1 q1 q2 hR hn2⊢
  subst q1;subst q2;have hl:=hR.r.l;refine bd (fun hg=>?_) (fun hg=>?_)
  ·have af:=hJ.fr _ (cp out3.2.1 0 f0 hf);have ag:=hJ.to _ (cp out3.2.2.1 0 g0 (by omega));have hm:=abb af.1 af.2 d0 d1;refine⟨f0,by omega,g0,hg,cz (fun (q:cfm)=>(-10000<=q.1.2.2.2.2.1/\q.1.2.2.2.2.1<=10000/\q.1.2.2.2.2.1=joH r d.1 c.1 out3.2.1 out3.2.2.1 f g)/\q.2.2.1=out3/\q.2.2.2.1=t3/\q.2.2.2.2.1=row) ?_ (fun k hk=>ba (fun hz=>hk _ ⟨⟨by dsimp only;omega,by dsimp only;omega,by dsimp only;unfold joH;rw[a0a (by simpa using hz)]⟩,rfl,rfl,rfl⟩) (fun hz=>cz (fun (q:cfm)=>(-10000<=q.1.2.2.2.2.1/\q.1.2.2.2.2.1<=10000/\q.1.2.2.2.2.1=joH r d.1 c.1 out3.2.1 out3.2.2.1 f g)/\q.2.2.1=out3/\q.2.2.2.1=t3/\q.2.2.2.2.1=row) ?_ (fun k1 hk1=>ba (fun hb=>?_) (fun hb=>?_))))⟩
   ·rintro⟨⟨_,_,_,_,h,_⟩,o4,out4,t4,row4,_⟩ ⟨⟨q1,q2,q6⟩,q3,q4,q5⟩;intros
    try dsimp only at q1 q2 q3 q4 q5 q6⊢
    subst q3;subst q4;subst q5;exact⟨ck (by simp only[a0h,a0i];omega),by rw[au];(try dsimp only);omega,hn2 _ ⟨by dsimp only;omega,by dsimp only;omega,rfl,rfl,hR.push q1 q2 q6⟩ (by first|omega|(dsimp only;omega))⟩
   ·rintro⟨⟨_,_,_,_,h,_⟩,o4,out4,t4,row4,_⟩ ⟨q1,q3,q4,q5⟩;intros;exact hk _ ⟨q1,q3,q4,q5⟩
   ·simp only[a0b,a0w]at hb;have hrow:=Hs.rowG f0 hb.1;have hcel:=Hs.cel f0 hb.1 g0 hb.2;rw[hco];exact⟨f0,by omega,g0,by omega,hk1 _ ⟨⟨by dsimp only;omega,by dsimp only;omega,by dsimp only;unfold joH;rw[ds (by simpa using hz),a0a hb]⟩,rfl,rfl,rfl⟩⟩
   ·exact⟨f0,hf,by rw[au];(try dsimp only);omega,by rw[au];(try dsimp only);omega,g0,by omega,by rw[au];(try dsimp only);omega,by rw[au];(try dsimp only);omega,hk1 _ ⟨⟨by dsimp only;omega,by dsimp only;omega,by dsimp only;unfold joH;rw[ds (by simpa using hz),ds (fun hh=>by rw[a1p hh.1,a1p hh.2]at hb;cases hb)]⟩,rfl,rfl,rfl⟩⟩
  ·have e:g=out3.2.1.length:=by omega
   rw[e]at hR;exact⟨ck (by simp only[a0h,a0i];omega),by rw[au];(try dsimp only);omega,hn1 _ ⟨by dsimp only;omega,by dsimp only;omega,rfl,hT.push hR.r (by rw[hR.g];unfold joW;rw[a0y])⟩ (by first|omega|(dsimp only;omega))⟩
 have ef:f=out2.2.1.length:=by omega
 rw[ef]at hT;have tl:=hT.r.l;have hob:=hJ.ob;have hid:out2.2.2.2.1=r.2.2.2.1:=by rw[hJ.re]
 refine⟨⟨by omega,by dsimp only;have:=Hs.ob0;omega,by dsimp only;have:=Hs.ob;omega,by dsimp only;omega,jl,by dsimp only;rw[hid,hob];exact Hs.li,by dsimp only;omega,fun x hx=>by have:=hJ.fr x hx;omega,fun x hx=>by have:=hJ.to x hx;omega,fun x hx=>by dsimp only at hx;rw[hid]at hx;have:=Hs.id x hx;omega,fun w hw=>?_⟩,?_⟩
 ·have h:=hT.r.e w hw;exact⟨by have:=h.l;dsimp only;omega,h.e⟩
 ·have e1:=hJ.fg;have e2:=hJ.tg;have e4:=hT.g;rw[a0y]at e4
  try dsimp only
  unfold bh1 ak3;rw[←He,←e1,←e2,←e4,hob,hid]
theorem ail(c d:aa):∃q:aa×Unit,ab (okL j9.args (c,d,()))->ab (j9.pre (c,d,()))->zg c d (fun r=>r=q)/\ab (okR j9.rt q)/\zh c d q.1:=pkb (ae acu az) bg 142 Tryz.f142 j9 anp [(20,18),(21,10)] (fun x K=>zg x.1 x.2.1 K) (fun x r=>zh x.1 x.2.1 r.1) (fun x h1 h2=>bfb x.1 x.2.1 h1 h2) (c,d,())
def tm(c d:aa):aa:=(ail c d).choose.1
theorem aqb(c d:aa)(hok:ab (okL j9.args (c,d,())))(hpre:ab (j9.pre (c,d,()))):ab (okR j9.rt (tm c d,()))/\zh c d (tm c d):=((ail c d).choose_spec hok hpre).2
def ahl:Ct:=⟨[bp,bp],[true,true],fun x=>[CgR 64 x.1,CgR 64 x.2.1],[(true,iw)],fun x=>((tm x.1 x.2.1),()),false,none⟩
theorem ao0:bw Tryz.prog 142 ahl:=ctb (ae acu az) bg 142 Tryz.f142 ahl anp [(20,18),(21,10)] (fun x K=>zg x.1 x.2.1 K) (fun x h1 h2=>((ail x.1 x.2.1).choose_spec h1 h2).1)
def opR(c:aa):aa:=(c.1,c.2.2.1,c.2.1,c.2.2.2.1,(bh c.2.1.length fun f=>bh c.2.1.length fun g=>bi c g f))
theorem bys{c:aa}{f g:Int}(f0:0<=f)(f1:f<c.2.1.length)(g0:0<=g)(g1:g<c.2.1.length):bi (opR c) f g=bi c g f:=by show ((bh c.2.1.length fun f=>bh c.2.1.length fun g=>bi c g f).getD f.toNat []).getD g.toNat 0=_;rw[d6 f0 f1,d6 g0 g1]
theorem bvs{c:aa}(S:ShapeP c):ShapeP (opR c):=by
 have hlt:=S.lt;have hlc:=S.lc;refine⟨S.ob,by show c.2.2.1.length<=40;rw[hlt];exact S.m,hlt.symm,S.to,S.fr,S.li,?_,?_,fun x a b=>⟨(S.idt x a b).2,(S.idt x a b).1⟩,?_,?_⟩
 ·show e9 c.2.2.2.1 c.2.2.1.length=true;rw[hlt];exact S.ids
 ·show (bh c.2.1.length _).length=c.2.2.1.length;rw[bj,hlt]
 ·intro f f0 f1;have f1':f<c.2.1.length:=by rw[←hlt];exact f1
  show ((bh c.2.1.length fun f=>bh c.2.1.length fun g=>bi c g f).getD f.toNat []).length=c.2.2.1.length;rw[d6 f0 f1',bj,hlt]
 ·intro f g f0 f1 g0 g1;have f1':f<c.2.1.length:=by rw[←hlt];exact f1
  have g1':g<c.2.1.length:=by rw[←hlt];exact g1
  unfold vu yi;rw[bys f0 f1' g0 g1'];show (if c.2.1.getD f.toNat 0=c.2.2.1.getD g.toNat 0 then decide (0<=bi c g f/\bi c g f<c.2.2.1.length/\c.2.2.1.getD (bi c g f).toNat 0=c.2.2.1.getD f.toNat 0/\c.2.1.getD (bi c g f).toNat 0=c.2.1.getD g.toNat 0)else decide (bi c g f=-1))=true;split
  ·rename_i h;have:=S.yes g0 g1' f0 f1' h.symm;rw[a0w,hlt];exact⟨this.1,this.2.1,this.2.2.2,this.2.2.1⟩
  ·rename_i h;rw[a0w];exact S.no g0 g1' f0 f1' fun e=>h e.symm
structure SqR (c:aa):Prop where
 m:c.2.1.length<=1000000000
 lt:c.2.2.1.length=c.2.1.length
 li:c.2.2.2.1.length<=1000000000
 lc:c.2.2.2.2.length=c.2.1.length
 row:∀f:Int,0<=f->f<c.2.1.length->(c.2.2.2.2.getD f.toNat []).length=c.2.1.length
theorem bv4{c:aa}(S:ShapeP c):SqR c:=⟨by have:=S.m;omega,S.lt,by have:=S.li;have:=S.ob;omega,S.lc,S.row⟩
theorem cd2{b:Int}{c:aa}(h:CgR b c)(hb:b<=1000000000):SqR c:=⟨by have:=h.m;omega,h.lt,by have:=h.li;have:=h.ob;omega,h.lc,fun _ f0 f1=>h.rowG f0 f1⟩
theorem cdj{b:Int}{c:aa}(h:CgR b c):CgR b (opR c):=
 ⟨h.b1,h.ob0,h.ob,by have:=h.m;have:=h.lt;show (c.2.2.1.length:Int)<=b;omega,h.lt.symm,h.li,by show (bh c.2.1.length _).length=c.2.2.1.length;rw[bj,h.lt],h.to,h.fr,h.id,
  fun r hr=>by change r∈bh c.2.1.length _ at hr;obtain⟨f,f0,f1,rfl⟩:=lp.1 hr;refine⟨by show _=c.2.2.1.length;rw[bj,h.lt],fun x hx=>?_⟩;obtain⟨g,g0,g1,rfl⟩:=lp.1 hx;exact h.cel g0 g1 f0 f1⟩
def rx:Ct:=⟨[bp],[true],fun x=>[SqR x.1],[(true,iw)],fun x=>(opR x.1,()),false,none⟩
def bgz:Ann:=(.s .n (.s .n (.s (.s .n (.l [(2,(.ad 2 [.de])),(3,(.ad 3 [.de])),(4,(.d bc))] [(2,gh),(3,gh)] [1] (.s .n (.s (.s .n (.s (.s .n (.l [(2,(.ad 2 [.de])),(3,(.ad 3 [.de])),(5,(.ref 800005 [])),(6,(.d bc))] [(2,gh),(3,gh),(800005,dq)] [1,4] .n)) .n)) .n)))) .n)))
def amp(c:aa)(K:aa×Unit->Prop):Prop:=let j:=c.2.1.length;c.2.2.1.length<=1099511627776/\j<=1099511627776/\c.2.2.2.1.length<=1099511627776/\bn (S:=(cex×ce1)) (fun a b=>let h:=a.1.2.2.1;Iq h<|Oc a.2.1<|Oc a.2.2.1<|cnd (decide (h<(j:Int))) (bn (S:=ce3) (fun d e=>let i:=d.2.2;let g:=d.1.2.2.2.1;let f:=c.2.2.2.2.getD g.toNat [];Iq g<|Oc d.2.1<|Oc i.1<|Ol i.2.1<|cnd (decide (g<(j:Int))) (Ix g c.2.2.2.2.length<|Ix h f.length<|c9 i.2.1.length [f.getD h.toNat 0].length 8/\(Ik (g+1)<|e (((),(),(),g+1,()),d.2.1,i.1,i.2.1++[f.getD h.toNat 0],()))) (c9 i.1.2.2.2.2.length [i.2.1].length 24/\(Ik (h+1)<|b (((),(),h+1,()),d.2.1,(i.1.1,i.1.2.1,i.1.2.2.1,i.1.2.2.2.1,i.1.2.2.2.2++[i.2.1]),())))) (((),(),(),0,()),a.2.1,a.2.2.1,[],())) (K (a.2.2.1,()))) (((),(),0,()),(0,[],[],[],[]),(c.1,c.2.2.1,c.2.1,c.2.2.2.1,[]),())
theorem bj2(c:aa)(hok:ab (okL rx.args (c,())))(hpre:ab (rx.pre (c,()))):amp c (fun r=>r=rx.res (c,())):=by
 simp only[rx,okL,T.oks,T.ok,ap,ab,a0f,a0c,a0g]at hok hpre
 try dsimp only[T.den]at hok hpre
 delta amp Ik Iq Ix Oc Ol Om
 dsimp -proj -eta only;have S:SqR c:=hpre;have hlt:=S.lt;have hlc:=S.lc;have hmm:=S.m;have hids:=S.li;clear hok;generalize hn:c.2.1.length=n at *;refine⟨by omega,by omega,by omega,?_⟩;refine bq (fun (s:(cex×ce1))=>0<=s.1.2.2.1/\s.1.2.2.1<=n/\s.2.2.1=(c.1,c.2.2.1,c.2.1,c.2.2.2.1,bh s.1.2.2.1.toNat fun f=>bh n fun g=>bi c g f)) (fun (s:(cex×ce1))=>(n-s.1.2.2.1).toNat) ?_ ⟨by simp,by simp,rfl⟩;rintro⟨⟨_,_,f,_⟩,o1,out,_⟩ next ⟨f0,f1,hq⟩ hnx _ _ _ _ _ _ _ _ _ _ _
 try dsimp only at f0 f1 hq hnx⊢
 refine bd (fun hf=>?_) (fun hf=>?_)
 ·refine bq (fun (s1:ce3)=>0<=s1.1.2.2.2.1/\s1.1.2.2.2.1<=n/\s1.2.2.1=out/\s1.2.2.2.1=bh s1.1.2.2.2.1.toNat fun g=>bi c g f) (fun (s1:ce3)=>(n-s1.1.2.2.2.1).toNat) ?_ ⟨by simp,by simp,rfl,rfl⟩;rintro⟨⟨_,_,_,g,_⟩,p1,out2,row,_⟩ next1 ⟨g0,g1,h1,h2⟩ hn1 _ _ _ _ _ _ _ _ _ _ _ _
  try dsimp only at g0 g1 h1 h2 hn1⊢
  subst h1;subst h2;refine bd (fun hg=>?_) (fun hg=>?_)
  ·have hr:=S.row g g0 (by omega);refine⟨g0,by omega,f0,by omega,ck (by rw[bj];simp only[a0h,a0i];omega),by rw[au];(try dsimp only);omega,hn1 _ ⟨(by first|omega|(dsimp only;omega)),(by first|omega|(dsimp only;omega)),rfl,?_⟩ (by first|omega|(dsimp only;omega))⟩
   try dsimp only;rw[kq g0];rfl
  ·have e:g=n:=by omega
   subst hq;refine⟨ck (by rw[bj];simp only[a0h,a0i];omega),by rw[au];(try dsimp only);omega,hnx _ ⟨(by first|omega|(dsimp only;omega)),(by first|omega|(dsimp only;omega)),?_⟩ (by first|omega|(dsimp only;omega))⟩
   try dsimp only;rw[kq f0,e,a0y]
 ·have e:f=n:=by omega
  simp only[rx,opR,hn];rw[hq,e,a0y]
theorem aex:bw Tryz.prog 127 rx:=ctb (ae mz az) bg 127 Tryz.f127 rx bgz [(1,514)] (fun x K=>amp x.1 K) (fun x h1 h2=>bj2 x.1 h1 h2)
def aje:List Int->List Int->Bool
 |_,[]=>false
 |[],_::_=>true
 |x::a,y::b=>if x=y then aje a b else decide (x<y)
def q8:Ct:=⟨[ed,ed],[false,false],fun x=>[],[(false,kf)],fun x=>(aje x.1 x.2.1,()),false,none⟩
def bah:Ann:=(.s .n (.s (.s .n (.l ais [] [0,1] .n)) .n))
def ahj(a b:List Int)(K:Bool×Unit->Prop):Prop:=bn (S:=ce7) (fun c d=>let e:=c.1.1;Iq e<|cnd (decide (e<(a.length:Int))&&decide (e<(b.length:Int))) (Ix e a.length<|Ix e b.length<|cnd (a.getD e.toNat 0 != b.getD e.toNat 0) (Ix e a.length<|Ix e b.length<|K (decide (a.getD e.toNat 0<b.getD e.toNat 0),())) (Ik (e+1)<|d ((e+1,()),()))) (K (decide ((a.length:Int)<(b.length:Int)),()))) ((0,()),())
theorem beh(a b:List Int)(hok:ab (okL q8.args (a,b,())))(hpre:ab (q8.pre (a,b,()))):ahj a b (fun r=>r=q8.res (a,b,())):=by
 simp only[q8,okL,T.oks,T.ok,ap,ab,a0f,a0c,a0g]at hok hpre
 try dsimp only[T.den]at hok hpre
 delta ahj Ik Iq Ix
 dsimp -proj -eta only;have h1:a.length<=140737488355328:=by simp only[eh]at hok;omega
 clear hok hpre;refine bq (fun (s:ce7)=>0<=s.1.1/\s.1.1<=a.length/\s.1.1<=b.length/\aje a b=aje (a.drop s.1.1.toNat) (b.drop s.1.1.toNat)) (fun (s:ce7)=>(a.length-s.1.1).toNat) ?_ ⟨by simp,by simp,by simp,by simp⟩;rintro⟨⟨i,_⟩,_⟩ next ⟨h0,h2,h3,h4⟩ hn _
 try dsimp only at h0 h2 h3 h4 hn⊢
 refine ba (fun hc=>?_) (fun hc=>?_)
 ·simp only[a0b,a0w]at hc;rw[aj2 a 0 h0 hc.1,aj2 b 0 h0 hc.2,aje]at h4;refine⟨h0,hc.1,h0,hc.2,ba (fun hd=>⟨h0,hc.1,h0,hc.2,?_⟩) (fun hd=>⟨by rw[au];(try dsimp only);omega,?_⟩)⟩
  ·rw[ds (by simpa using hd)]at h4;simp only[q8,h4]
  ·rw[a0a (by simpa using hd)]at h4;exact hn _ ⟨by dsimp only;omega,by dsimp only;omega,by dsimp only;omega,h4⟩ (by dsimp only;omega)
 ·simp only[a3k,a1o]at hc;simp only[q8,h4];by_cases hb:i<b.length
  ·have ha:¬i<a.length:=by rcases hc with h|h<;>omega
   rw[al9 a (by omega),aj2 b 0 h0 hb,aje,a1p (by omega:(a.length:Int)<b.length)]
  ·rw[al9 b (by omega),a21 (by omega:¬(a.length:Int)<b.length)];cases a.drop i.toNat<;>rfl
theorem bb9:bw Tryz.prog 156 q8:=ctb az bg 156 Tryz.f156 q8 bah [(4,8),(5,8)] (fun x K=>ahj x.1 x.2.1 K) (fun x h1 h2=>beh x.1 x.2.1 h1 h2)
def biz(a b:Int×Int×List Int):Bool:=if a.1=b.1 then (if a.2.1=b.2.1 then aje a.2.2 b.2.2 else decide (a.2.1<b.2.1))else decide (a.1<b.1)
def oy:Ct:=⟨[bqk,bqk],[true,true],fun x=>[],[(false,kf)],fun x=>(biz x.1 x.2.1,()),false,none⟩
def aff(a b:bav)(K:Bool×Unit->Prop):Prop:=cnd (a.1 != b.1) (K (decide (a.1<b.1),())) (cnd (a.2.1 != b.2.1) (K (decide (a.2.1<b.2.1),())) (K (aje a.2.2 b.2.2,())))
theorem aya(a b:bav)(hok:ab (okL oy.args (a,b,())))(hpre:ab (oy.pre (a,b,()))):aff a b (fun r=>r=oy.res (a,b,())):=by
 simp only[oy,okL,T.oks,T.ok,ap,ab,a0f,a0c,a0g]at hok hpre
 try dsimp only[T.den]at hok hpre
 unfold aff;simp only[oy,biz];refine ba (fun h=>?_) (fun h=>?_)
 ·rw[a3i]at h;rw[ds h]
 ·have h1:a.1=b.1:=by simpa using h
  rw[a0a h1];refine ba (fun h=>?_) (fun h=>?_)
  ·rw[a3i]at h;rw[ds h]
  ·have h2:a.2.1=b.2.1:=by simpa using h
   rw[a0a h2]
theorem aw1:bw Tryz.prog 151 oy:=ctb (ae bb9 az) bg 151 Tryz.f151 oy .n [] (fun x K=>aff x.1 x.2.1 K) (fun x h1 h2=>aya x.1 x.2.1 h1 h2)
def ae0(fr to:List Int)(p:Int×Int×List Int)(n:Nat):List cfe:=((bh n fun e=>e).filter fun e=>fr.getD e.toNat 0==p.2.1).map fun e=>(p.1,to.getD e.toNat 0,p.2.2++[e])
def blr(fr to:List Int)(p:Int×Int×List Int):List cfe:=ae0 fr to p fr.length
def aa1(fr to:List Int):Nat->Nat->List cfe->List cfe
 |0,_,l=>l
 |u+1,k,l=>if k<l.length/\l.length<=40 then aa1 fr to u (k+1) (l++blr fr to (l.getD k (0,0,[])))else l
def ag4(n:Int):List cfe:=bh n.toNat fun x=>(x,x,[])
def ae3(x:Int×Int×List Int):List cfe->List cfe
 |[]=>[x]
 |y::r=>if biz x y then y::ae3 x r else x::y::r
def amd(l:List cfe):List cfe:=l.foldl (fun a x=>ae3 x a) []
def bbh(l:List cfe):List cfe:=(amd l).reverse
def ale(n:Int)(fr to:List Int):List cfe:=bbh (aa1 fr to 42 0 (ag4 n))
theorem cef{fr to:List Int}{p:Int×Int×List Int}{e:Int}(h:0<=e):ae0 fr to p (e+1).toNat=ae0 fr to p e.toNat++(if (fr.getD e.toNat 0==p.2.1)=true then [(p.1,to.getD e.toNat 0,p.2.2++[e])]else []):=by unfold ae0;rw[kq h,a33,a2m];split<;>rename_i h1<;>simp only[a2r,h1,a04,if_false,a47,a2h,a4e,a1g]
theorem bkf{fr to:List Int}{p:Int×Int×List Int}{n:Nat}:(ae0 fr to p n).length<=n:=by unfold ae0;rw[a00];exact a0z (a4k _ _) (Nat.le_of_eq (bj n))
theorem bka{fr to:List Int}{p q:Int×Int×List Int}{n:Nat}(h:q∈ae0 fr to p n):q.2.2.length=p.2.2.length+1:=by unfold ae0 at h;obtain⟨e,_,rfl⟩:=a2c.1 h;simp only[a0m,a0h,a0i]
theorem cc8{fr to:List Int}{u k:Nat}{l:List cfe}(h:¬(k<l.length/\l.length<=40)):aa1 fr to u k l=l:=by cases u<;>simp only[aa1,ds h]
theorem beg{α:Type}{l m:List α}{d:α}{k:Nat}(h:k<l.length):(l++m).getD k d=l.getD k d:=by rw[a0l,a0l,a1f h]
theorem bjq{x:Int×Int×List Int}:∀l:List cfe,(ae3 x l).length=l.length+1
 |[]=>rfl
 |y::r=>by unfold ae3;split<;>simp only[a0h,bjq r]
theorem cbq{l:List cfe}{i:Int}(h0:0<=i)(h1:i<l.length):amd (l.take (i+1).toNat)=ae3 (l.getD i.toNat (0,(0,[]))) (amd (l.take i.toNat)):=by unfold amd;rw[mm l (0,(0,[])) h0 h1,a11];rfl
theorem bkx:∀(l a:List cfe),(l.foldl (fun a x=>ae3 x a) a).length=a.length+l.length
 |[],a=>rfl
 |x::l,a=>by rw[a10,bkx l,bjq,a0h];omega
theorem bjd(l:List cfe):(amd l).length=l.length:=by unfold amd;rw[bkx];exact a16 _
def apa(l:List cfe)(i:Int):List cfe:=(amd (l.take i.toNat)).reverse++l.drop i.toNat
theorem bzz(l:List cfe)(i:Int):(apa l i).length=l.length:=by unfold apa;rw[a0m,a5h,bjd,a03,a13];omega
theorem cd7(l:List cfe):apa l 1=l:=by cases l<;>rfl
theorem cds{l:List cfe}{i:Int}(h:(l.length:Int)<=i):apa l i=bbh l:=by unfold apa bbh;rw[acf l h,a4z (by omega),a2e]
theorem bex{α:Type}{d x:α}{t:List α}:∀p:List α,(p++x::t).getD p.length d=x
 |[]=>rfl
 |_::p=>by simp
theorem bwq{α:Type}{d x y:α}{t:List α}:∀p:List α,(p++y::x::t).getD (p.length+1) d=x
 |[]=>rfl
 |_::p=>by simp
theorem bun{α:Type}{x y:α}{t:List α}:∀p:List α,((p++y::x::t).set (p.length+1) y).set p.length x=p++x::y::t
 |[]=>rfl
 |a::p=>by simp
def sq:Ct:=⟨[bc,ed,ed],[false,false,false],fun x=>[0<=x.1,x.1<=8,x.2.2.1.length=x.2.1.length,x.2.1.length<=1000000000],[(false,(.fz (.sl bxm)))],fun x=>(ale x.1 x.2.1 x.2.2.1,()),true,none⟩
def bei:Ann:=(.s .n (.j bil ar5 [0,1,2] (.s .n (.s (.s .n (.l [(7,(.ref 800007 [])),(8,(.d bc))] ar5 [0,1,2] .n)) (.s (.s .n (.l [(7,(.ref 800007 [])),(9,(.d bc))] ar5 [1,2] (.s .n (.s (.s .n (.l [(7,(.ref 800007 [])),(10,(.d bc))] ar5 [1,2,9] (.s .n (.s (.s .n (.j bil ar5 [1,2,9,10] .n)) .n)))) .n)))) (.s (.s .n (.l [(7,(.ref 800007 [])),(11,(.d bc))] ar5 [] (.s .n (.s (.s .n (.l [(7,(.ref 800007 [])),(12,(.d bc))] ar5 [11] .n)) .n)))) .n))))))
def ca3:FuncId->Option Ct:=lkp [(143,jt),(151,oy)]
def akh(n:Int)(from_ to:List Int)(K:(List bav)×Unit->Prop):Prop:=dk (S:=cft) (fun a=>Oa asq a.2.1<|bn (S:=cfd) (fun b c=>let w:=b.1.2.1;Iq w<|Oa asq b.2.1<|cnd (decide (w<n)) (c9 b.2.1.length ((w,w,[])::([]:List (Int×ce5))).length 40/\(Ik (w+1)<|c (((),w+1,()),b.2.1++(w,w,[])::([]:List (Int×ce5)),()))) (bn (S:=cfd) (fun d e=>let x:=d.1.2.1;Iq x<|Oa asq d.2.1<|cnd (decide (x<(d.2.1.length:Int))&&decide ((d.2.1.length:Int)<=40)) (bn (S:=cfd) (fun f g=>let z:=f.2.1.length;let u:=f.1.2.1;let q:=f.2.1.getD x.toNat (0,0,[]);Iq u<|Oa asq f.2.1<|cnd (decide (u<(from_.length:Int))) (Ix u from_.length<|Ix x z<|dk (S:=cft) (fun h=>Oa asq h.2.1<|Ik (u+1)<|g (((),u+1,()),h.2.1,())) (fun i=>cnd (from_.getD u.toNat 0==q.2.1) (Ix x z<|Ix u to.length<|Ix x z<|q.2.2.length<=1099511627776/\c9 q.2.2.length [u].length 8/\c9 z ((q.1,to.getD u.toNat 0,q.2.2++[u])::([]:List (Int×ce5))).length 40/\i (((),()),f.2.1++(q.1,to.getD u.toNat 0,q.2.2++[u])::([]:List (Int×ce5)),())) (i (((),()),f.2.1,())))) (Ik (x+1)<|e (((),x+1,()),f.2.1,()))) (((),0,()),d.2.1,())) (bn (S:=cfd) (fun j l=>let a2:=j.1.2.1;Iq a2<|Oa asq j.2.1<|cnd (decide (a2<(j.2.1.length:Int))) (bn (S:=cfd) (fun m o=>let v:=m.2.1.length;let r:=m.1.2.1;let a0:=m.2.1.getD r.toNat (0,0,[]);let y:=decide (0<r);let t:=m.2.1.getD (Int.toNat (r-1)) (0,0,[]);let a1:=List.set m.2.1 r.toNat t;Iq r<|Oa asq m.2.1<|(y=true->r<(v:Int)/\0<=r)/\(y=true->inK .i64 (r-1))/\(y=true->r-1<(v:Int)/\0<=r-1)/\cnd (y&&biz a0 t) (Ix r v<|Ik (r-1)<|Ix (r-1) v<|Ix r v<|Ik (r-1)<|Ix (r-1) a1.length<|Ik (r-1)<|o (((),r-1,()),List.set a1 (Int.toNat (r-1)) a0,())) (Ik (a2+1)<|l (((),a2+1,()),m.2.1,()))) (((),a2,()),j.2.1,())) (K (j.2.1,()))) (((),1,()),d.2.1,()))) (((),0,()),b.2.1,()))) (((),0,()),a.2.1,())) (fun p=>p (((),()),([]:List (Int×ce5)),()))
theorem bhh(n:Int)(from_ to:List Int)(hok:ab (okL sq.args (n,from_,to,())))(hpre:ab (sq.pre (n,from_,to,()))):akh n from_ to (fun r=>r=sq.res (n,from_,to,())):=by
 simp only[sq,okL,T.oks,T.ok,ap,ab,a0f,a0c,a0g]at hok hpre
 try dsimp only[T.den]at hok hpre
 delta akh Ik Iq Ix Oa
 dsimp -proj -eta only;obtain⟨n0,n8,ht,hf⟩:=hpre;refine cz (fun (s:cft)=>s.2.1=[]) ?_ (fun k hk=>hk _ rfl);rintro⟨_,l0,_⟩ e0;intros
 try dsimp only at e0⊢
 subst e0;refine bq (fun (s:cfd)=>0<=s.1.2.1/\s.1.2.1<=n/\s.2.1=ag4 s.1.2.1) (fun (s:cfd)=>(n-s.1.2.1).toNat) ?_ ⟨by simp,n0,rfl⟩;rintro⟨⟨_,x,_⟩,l,_⟩ next ⟨x0,x1,q⟩ hnx
 intros
 try dsimp only at x0 x1 q hnx⊢
 subst q;have zl:(ag4 x).length=x.toNat:=bj _;refine bd (fun hx=>?_) (fun hx=>?_)
 ·refine⟨ck (by rw[zl];simp only[a0h,a0i];omega),by rw[au];(try dsimp only);omega,hnx _ ⟨by dsimp only;omega,by dsimp only;omega,?_⟩ (by dsimp only;omega)⟩
  try dsimp only
  unfold ag4;rw[kq x0]
 have ex:x=n:=by omega
 subst ex;clear hnx
 have hz0:∀p∈ag4 x,(p.2.2.length:Int)<=0:=by
  intro p hp;unfold ag4 at hp
  have hz:∀(k:Nat),p∈bh k (fun x=>((x,x,[]):Int×Int×List Int))->p.2.2=[]:=by
   intro k
   induction k with
   |zero=>intro h;cases h
   |succ k ih=>
    intro h;rcases a07.1 h with h|h
    ·exact ih h
    ·rw[a0s.1 h]
  rw[hz _ hp];simp
 refine bq (fun (s:cfd)=>0<=s.1.2.1/\s.1.2.1<=41/\aa1 from_ to 42 0 (ag4 x)=aa1 from_ to (42-s.1.2.1).toNat s.1.2.1.toNat s.2.1/\(∀p∈s.2.1,(p.2.2.length:Int)<=s.1.2.1)/\s.2.1.length<=40+from_.length) (fun (s:cfd)=>(41-s.1.2.1).toNat) ?_ ⟨by simp,by simp,rfl,hz0,by dsimp only;omega⟩;rintro⟨⟨_,k,_⟩,L,_⟩ next ⟨k0,k41,hg,hp,hL⟩ hnx
 intros
 try dsimp only at k0 k41 hg hp hL hnx⊢
 refine ba (fun hc=>?_) (fun hc=>?_)
 ·simp only[a0b,a0w]at hc;obtain⟨hc1,hc2⟩:=hc;have hpk:=hp _ (cp L (0,(0,[])) k0 hc1);have hgk:aa1 from_ to 42 0 (ag4 x)=aa1 from_ to (42-(k+1)).toNat (k+1).toNat (L++blr from_ to (L.getD k.toNat (0,0,[]))):=by rw[hg,show (42-k).toNat=(42-(k+1)).toNat+1 from by omega,show (k+1).toNat=k.toNat+1 from by omega];simp only[aa1];rw[a0a ⟨by omega,by omega⟩]
  generalize hP:L.getD k.toNat (0,(0,[]))=P at *;refine bq (fun (s:cfd)=>0<=s.1.2.1/\s.1.2.1<=from_.length/\s.2.1=L++ae0 from_ to P s.1.2.1.toNat) (fun (s:cfd)=>(from_.length-s.1.2.1).toNat) ?_ ⟨by simp,by simp,by simp[ae0,bh]⟩;rintro⟨⟨_,e,_⟩,M,_⟩ next1 ⟨e0,e1,q⟩ hn1;intros
  try dsimp only at e0 e1 q hn1⊢
  subst q;have hM:(L++ae0 from_ to P e.toNat).length<=40+from_.length:=by rw[a0m];have:=@bkf from_ to P e.toNat;omega
  have hMk:k<(L++ae0 from_ to P e.toNat).length:=by rw[a0m];omega
  have hG:(L++ae0 from_ to P e.toNat).getD k.toNat (0,(0,[]))=P:=by rw[beg (by omega),hP]
  have hE:=@cef from_ to P e e0;rw[hG];refine bd (fun he=>?_) (fun he=>?_)
  ·refine⟨e0,by omega,k0,hMk,cz (fun (q:cft)=>q.2.1=L++ae0 from_ to P (e+1).toNat) ?_ ?_⟩
   ·rintro⟨_,M2,_⟩ q2;intros
    try dsimp only at q2⊢
    subst q2;exact⟨by rw[au];(try dsimp only);omega,hn1 _ ⟨by dsimp only;omega,by dsimp only;omega,rfl⟩ (by dsimp only;omega)⟩
   ·intro k1 hk1;rw[hE]at hk1;refine ba (fun hb=>?_) (fun hb=>?_)
    ·rw[a0a hb]at hk1;exact⟨k0,hMk,e0,by omega,k0,hMk,by omega,ck (by simp only[a0h,a0i];omega),ck (by simp only[a0h,a0i];omega),hk1 _ (a01 _ _ _)⟩
    ·rw[ds (by rw[hb];decide),a2e]at hk1;exact hk1 _ rfl
  ·have ee:e=from_.length:=by omega
   subst ee;refine⟨by rw[au];(try dsimp only);omega,hnx _ ⟨by dsimp only;omega,by dsimp only;omega,hgk,?_,hM⟩ (by dsimp only;omega)⟩;intro p hp'
   try dsimp only at hp'⊢
   rcases a07.1 hp' with h|h
   ·have:=hp p h;omega
   ·have:=bka h;omega
 ·simp only[a3k,a1o]at hc;replace hg:=hg.trans (cc8 (by omega));clear hnx;have hres:ale x from_ to=bbh L:=by unfold ale;rw[hg]
  simp only[sq];rw[hres];refine bq (fun (s:cfd)=>1<=s.1.2.1/\s.2.1=apa L s.1.2.1) (fun (s:cfd)=>(L.length-s.1.2.1).toNat) ?_ ⟨by simp,(cd7 L).symm⟩;rintro⟨⟨_,i,_⟩,A,_⟩ next1 ⟨i0,q⟩ hn1;intros
  try dsimp only at i0 q hn1⊢
  subst q;rw[bzz];refine bd (fun hi=>?_) (fun hi=>?_)
  ·have hs:=cbq (l:=L) (i:=i) (by omega) hi;have hd:L.drop i.toNat=L.getD i.toNat (0,(0,[]))::L.drop (i+1).toNat:=by rw[show (i+1).toNat=i.toNat+1 from by omega,a0l,a0p (by omega)];exact a3y (by omega)
   have ha:apa L (i+1)=(ae3 (L.getD i.toNat (0,(0,[]))) (amd (L.take i.toNat))).reverse++L.drop (i+1).toNat:=by unfold apa;rw[hs]
   have hl:(amd (L.take i.toNat)).length=i.toNat:=by rw[bjd,a03];omega
   have hA:apa L i=(amd (L.take i.toNat)).reverse++L.getD i.toNat (0,(0,[]))::L.drop (i+1).toNat:=by unfold apa;rw[hd]
   rw[hA];generalize L.getD i.toNat (0,(0,[]))=X at *;generalize amd (L.take i.toNat)=R at *;generalize L.drop (i+1).toNat=Q at *;refine bq (fun (s:cfd)=>∃R1 R2,R=R1++R2/\(R2.length:Int)=s.1.2.1/\ae3 X R=R1++ae3 X R2/\s.2.1=R2.reverse++X::(R1.reverse++Q)) (fun (s:cfd)=>s.1.2.1.toNat) ?_ ⟨[],R,rfl,by dsimp only;omega,rfl,rfl⟩;rintro⟨⟨_,k,_⟩,B,_⟩ next2 ⟨R1,R2,r1,r2,r3,r4⟩ hn2;intros
   try dsimp only at r1 r2 r3 r4 hn2⊢
   subst r4
   cases R2 with
   |nil=>
    have ek:k=0:=by simpa using r2.symm
    subst ek;refine⟨fun h=>by simp at h,fun h=>by simp at h,fun h=>by simp at h,ba (fun h=>by simp at h) (fun _=>⟨by rw[au];(try dsimp only);omega,hn1 _ ⟨by dsimp only;omega,?_⟩ (by dsimp only;omega)⟩)⟩
    try dsimp only
    rw[ha,r3];simp[ae3]
   |cons Y R2=>
    simp only[a0h]at r2;have hr:R1.length+(R2.length+1)=i.toNat:=by rw[←hl,r1];simp
    have e1:(Y::R2).reverse++X::(R1.reverse++Q)=R2.reverse++Y::X::(R1.reverse++Q):=by simp
    rw[e1];have hk:k.toNat=R2.reverse.length+1:=by rw[a5h];omega
    have hk1:(k-1).toNat=R2.reverse.length:=by rw[a5h];omega
    rw[hk,hk1,bex,bwq,bun];have hlen:((R2.reverse++Y::X::(R1.reverse++Q)).length:Int)=R2.length+2+R1.length+Q.length:=by simp;omega
    have hlen2:(((R2.reverse++Y::X::(R1.reverse++Q)).set (R2.reverse.length+1) Y).length:Int)=R2.length+2+R1.length+Q.length:=by rw[a1m];exact hlen
    have hk63:inK .i64 (k-1):=by rw[au];(try dsimp only);omega
    refine⟨fun _=>⟨by omega,by omega⟩,fun _=>hk63,fun _=>⟨by omega,by omega⟩,ba (fun h=>?_) (fun h=>?_)⟩
    ·simp only[a0b,a0w]at h;refine⟨by omega,by omega,hk63,by omega,by omega,by omega,by omega,hk63,by omega,by omega,hk63,hn2 _ ⟨R1++[Y],R2,by simp[r1],by dsimp only;omega,?_,?_⟩ (by dsimp only;omega)⟩
     ·rw[r3];simp[ae3,h.2]
     ·simp
    ·have hb:biz X Y=false:=by
      rcases a3k.1 h with h|h
      ·simp only[a1o]at h;omega
      ·exact h
     refine⟨by rw[au];(try dsimp only);omega,hn1 _ ⟨by dsimp only;omega,?_⟩ (by dsimp only;omega)⟩
     try dsimp only
     rw[ha,r3];simp[ae3,hb]
  ·rw[cds (by omega)]
theorem bej:bw Tryz.prog 145 sq:=ctb (ae mz (ae aw1 az)) bg 145 Tryz.f145 sq bei [(18,12),(12,9),(13,8000085018)] (fun x K=>akh x.1 x.2.1 x.2.2.1 K) (fun x h1 h2=>bhh x.1 x.2.1 x.2.2.1 h1 h2)
abbrev PtT:=Int×Int×List Int
def pAt(l:List PtT)(i:Int):PtT:=l.getD i.toNat (0,(0,[]))
def arj(n:Nat)(p:Int->Bool):Int:=(bh n fun k=>k).foldl (fun h k=>if p k then k else h) (-1)
def apv(l:List PtT)(i j k:Int):Bool:=(pAt l k).1==(pAt l i).1&&eqR ed (pAt l k).2.2 ((pAt l i).2.2++(pAt l j).2.2)
def aed(l:List PtT)(i j:Int):Int:=if (pAt l i).2.1=(pAt l j).1 then arj l.length (apv l i j)else -1
def amj(l:List PtT)(n:Int)(i:Nat):List Int:=(bh i fun k=>k).foldl (fun a k=>if (pAt l k).2.2.length=0 then a.set (pAt l k).1.toNat k else a) (List.replicate n.toNat 0)
def ax5(n:Int)(l:List PtT)(t:List (List Int)):aa:=(n,(l.map (·.1),(l.map (·.2.1),(amj l n l.length,t))))
def bqi(n:Int)(l:List PtT):aa:=ax5 n l (if l.length<=40 then bh l.length (fun i=>bh l.length (aed l i))else [])
def y7(n:Int)(fr to:List Int):aa:=bqi n (ale n fr to)
theorem bjp{x:PtT}:∀l:List PtT,(ae3 x l).Perm (x::l)
 |[]=>List.Perm.refl _
 |y::r=>by
  unfold ae3;split
  ·exact ((bjp r).cons y).trans (List.Perm.swap x y r)
  ·exact List.Perm.refl _
theorem bgd:∀(l a:List PtT),(l.foldl (fun a x=>ae3 x a) a).Perm (a++l)
 |[],a=>by rw[List.foldl_nil,a2e]
 |x::l,a=>by rw[a10];refine (bgd l _).trans (((bjp a).append_right l).trans ?_);rw[a4y];exact List.perm_middle.symm
theorem ba6(l:List PtT):(bbh l).Perm l:=(List.reverse_perm _).trans (bgd l [])
theorem bkp{fr to:List Int}(Q:PtT->Prop)(hQ:∀p e,Q p->0<=e->e<(fr.length:Int)->fr.getD e.toNat 0=p.2.1->Q (p.1,to.getD e.toNat 0,p.2.2++[e])):∀(u k:Nat)(l:List PtT),(∀p∈l,Q p)->∀p∈aa1 fr to u k l,Q p
 |0,_,_,h=>h
 |u+1,k,l,h=>by
  unfold aa1;split
  ·rename_i hc;refine bkp Q hQ u (k+1) _ fun p hp=>?_;rcases a07.1 hp with hp|hp
   ·exact h p hp
   ·unfold blr ae0 at hp;obtain⟨e,he,rfl⟩:=a2c.1 hp;obtain⟨he,hf⟩:=a3a.1 he;obtain⟨e2,e0,e1,rfl⟩:=lp.1 he;have hk:l.getD k (0,(0,[]))∈l:=by have:=cp l (0,(0,[])) (i:=k) (by omega) (by omega);simpa using this
    exact hQ _ _ (h _ hk) e0 e1 (by simpa using hf)
  ·exact h
theorem bi6{fr to:List Int}:∀(u k:Nat)(l:List PtT),(∀p∈l,p.2.2.length<=k)->∀p∈aa1 fr to u k l,p.2.2.length<=k+u
 |0,_,_,h=>h
 |u+1,k,l,h=>by
  unfold aa1;split
  ·rename_i hc;have:=bi6 (fr:=fr) (to:=to) u (k+1) (l++blr fr to (l.getD k (0,0,[]))) fun p hp=>?_
   ·intro p hp;have:=this p hp;omega
   ·rcases a07.1 hp with hp|hp
    ·have:=h p hp;omega
    ·have hk:l.getD k (0,(0,[]))∈l:=by have:=cp l (0,(0,[])) (i:=k) (by omega) (by omega);simpa using this
     have h1:=h _ hk;have h2:=bka hp;omega
  ·intro p hp;have:=h p hp;omega
theorem bk0{fr to:List Int}:∀(u k:Nat)(l:List PtT),l.length<=40+fr.length->(aa1 fr to u k l).length<=40+fr.length
 |0,_,_,h=>h
 |u+1,k,l,h=>by
  unfold aa1;split
  ·rename_i hc;refine bk0 u (k+1) _ ?_;rw[a0m];have:=@bkf fr to (l.getD k (0,0,[])) fr.length;unfold blr;omega
  ·exact h
theorem bl6{n:Int}{p:PtT}(h:p∈ag4 n):0<=p.1/\p.1<n/\p.2.1=p.1/\p.2.2=[]:=by unfold ag4 at h;obtain⟨e,h0,h1,rfl⟩:=lp.1 h;exact⟨h0,by dsimp only;omega,rfl,rfl⟩
theorem cas{n:Int}{fr to:List Int}{p:PtT}(h:p∈ale n fr to):(0<=p.1/\p.1<n)/\p.2.2.length<=42:=by
 have h1:=(ba6 _).mem_iff.1 h;refine⟨bkp (fun p=>0<=p.1/\p.1<n) (fun p e hp _ _ _=>hp) 42 0 _ (fun p hp=>?_) p h1,?_⟩
 ·have:=bl6 hp;exact⟨this.1,this.2.1⟩
 ·have:=bi6 42 0 _ (fun p hp=>by rw[(bl6 hp).2.2.2];simp) p h1;omega
theorem bzf{n:Int}{fr to:List Int}(h:n<=8):(ale n fr to).length<=40+fr.length:=by unfold ale;rw[(ba6 _).length_eq];refine bk0 42 0 _ ?_;unfold ag4;rw[bj];omega
theorem btt{l:List PtT}{n i:Int}(h:0<=i):amj l n (i+1).toNat=if (pAt l i).2.2.length=0 then (amj l n i.toNat).set (pAt l i).1.toNat i else amj l n i.toNat:=by unfold amj;rw[kq h,a11];rfl
theorem azh{l:List PtT}{n:Int}:∀i:Nat,(amj l n i).length=n.toNat
 |0=>by simp[amj,bh]
 |i+1=>by
  have:=@btt l n i (by omega);rw[show ((i:Int)+1).toNat=i+1 from rfl,a0y]at this;rw[this];split
  ·rw[a1m,azh i]
  ·exact azh i
theorem cbo{p:Int->Bool}{i:Int}(h:0<=i):arj (i+1).toNat p=if p i then i else arj i.toNat p:=by unfold arj;rw[kq h,a11];rfl
def nw:Ct:=⟨[bc,ed,ed],[false,false,false],fun x=>[0<=x.1,x.1<=8,x.2.2.1.length=x.2.1.length,x.2.1.length<=1000000000],[(true,iw)],fun x=>(y7 x.1 x.2.1 x.2.2.1,()),false,none⟩
def ax7:Ann:=(.s .n (.s .n (.s .n (.s (.s .n (.l [(6,(.ad 6 [.de])),(8,(.ad 8 [.de])),(9,(.d bc))] [(6,gh),(8,gh)] [7] (.s .n (.s (.s .n (.s .n (.s .n (.j [(6,(.ad 6 [.de])),(8,(.ad 8 [.de]))] [(6,gh),(8,gh)] [7,9] .n)))) .n)))) (.s .n (.s (.s .n (.l [(6,(.ad 6 [.de])),(8,(.ad 8 [.de])),(10,(.d bc))] [(6,gh),(8,gh)] [7] (.s .n (.s (.s .n (.s (.s .n (.l [(6,(.ad 6 [.de])),(8,(.ad 8 [.de])),(11,(.ref 800011 [])),(12,(.d bc))] bii [7,10] (.s .n (.s (.s .n (.s (.s .n (.j bw9 bii [7,10,12] (.s (.s .n (.s .n (.l [(6,(.ad 6 [.de])),(8,(.ad 8 [.de])),(11,(.ref 800011 [])),(13,(.d bc)),(15,(.d bc))] bii [7,10,12,14] (.s .n (.s (.s .n (.j bw9 bii [7,10,12,14,15] .n)) .n))))) .n))) .n)) .n)))) .n)) .n)))) .n))))))
def bvh:FuncId->Option Ct:=lkp [(143,jt),(89,m9),(50,tj),(145,sq)]
def agx(n:Int)(from_ to:List Int)(K:aa×Unit->Prop):Prop:=let q:=ale n from_ to;0<=n/\n<=8/\to.length=from_.length/\from_.length<=1000000000/\0<=n/\n<=n/\n<=((140737488355328:Nat):Int)/\n*((8:Nat):Int)<=((140737488355328:Nat):Int)/\bn (S:=(cex×ce1)) (fun a b=>let x:=a.1.2.2.1;let v:=a.2.2.1;let r:=q.getD x.toNat (0,0,[]);Iq x<|Oc a.2.1<|Oc v<|cnd (decide (x<(q.length:Int))) (Ix x q.length<|c9 v.2.1.length [r.1].length 8/\(Ix x q.length<|c9 v.2.2.1.length [r.2.1].length 8/\(Ix x q.length<|dk (S:=(ce6×ce1)) (fun c=>Oc c.2.1<|Oc c.2.2.1<|Ik (x+1)<|b (((),(),x+1,()),c.2.1,c.2.2.1,())) (fun d=>cnd ((r.2.2.length:Int)==0) (Ix x q.length<|Ix r.1 v.2.2.2.1.length<|d (((),(),()),a.2.1,(v.1,v.2.1++[r.1],v.2.2.1++[r.2.1],List.set v.2.2.2.1 r.1.toNat x,v.2.2.2.2),())) (d (((),(),()),a.2.1,(v.1,v.2.1++[r.1],v.2.2.1++[r.2.1],v.2.2.2),())))))) (cnd (!(decide (v.1<=8)&&decide ((v.2.1.length:Int)<=40))) (K (v,())) (bn (S:=(cex×ce1)) (fun e f=>let y:=e.1.2.2.1;let t:=q.getD y.toNat (0,0,[]);Iq y<|Oc e.2.1<|Oc e.2.2.1<|cnd (decide (y<(q.length:Int))) (bn (S:=ce3) (fun g h=>let a2:=g.2.2.2.1;let a1:=g.2.2.1;let w:=g.1.2.2.2.1;let z:=q.getD w.toNat (0,0,[]);Iq w<|Oc g.2.1<|Oc a1<|Ol a2<|cnd (decide (w<(q.length:Int))) (Ix y q.length<|Ix w q.length<|dk (S:=ce3) (fun i=>Iq i.1.2.2.2.1<|Oc i.2.1<|Oc i.2.2.1<|Ol i.2.2.2.1<|c9 i.2.2.2.1.length [i.1.2.2.2.1].length 8/\(Ik (w+1)<|h (((),(),(),w+1,()),i.2.1,i.2.2.1,i.2.2.2.1++[i.1.2.2.2.1],()))) (fun j=>cnd (t.2.1==z.1) (Ix y q.length<|t.2.2.length<=1099511627776/\(Ix w q.length<|c9 t.2.2.length z.2.2.length 8/\bn (S:=cfs) (fun l m=>let a4:=l.2.2;let a3:=l.1.2.2.2;let u:=a3.2.1;let a0:=q.getD u.toNat (0,0,[]);Iq a3.1<|Iq u<|Oc l.2.1<|Oc a4.1<|Ol a4.2.1<|cnd (decide (u<(q.length:Int))) (Ix u q.length<|Ix y q.length<|((a0.1==t.1)=true->u<(q.length:Int)/\0<=u)/\dk (S:=ce3) (fun o=>Iq o.1.2.2.2.1<|Oc o.2.1<|Oc o.2.2.1<|Ol o.2.2.2.1<|Ik (u+1)<|m (((),(),(),o.1.2.2.2.1,u+1,()),o.2.1,o.2.2.1,o.2.2.2.1,())) (fun p=>cnd (a0.1==t.1&&eqR ed a0.2.2 (t.2.2++z.2.2)) (p (((),(),(),u,()),l.2.1,a4.1,a4.2.1,())) (p (((),(),(),a3.1,()),l.2.1,a4.1,a4.2.1,())))) (j (((),(),(),a3.1,()),l.2.1,a4.1,a4.2.1,()))) (((),(),(),-1,0,()),g.2.1,a1,a2,()))) (j (((),(),(),-1,()),g.2.1,a1,a2,())))) (c9 a1.2.2.2.2.length [a2].length 24/\(Ik (y+1)<|f (((),(),y+1,()),g.2.1,(a1.1,a1.2.1,a1.2.2.1,a1.2.2.2.1,a1.2.2.2.2++[a2]),())))) (((),(),(),0,()),e.2.1,e.2.2.1,[],())) (K (e.2.2.1,()))) (((),(),0,()),a.2.1,v,())))) (((),(),0,()),(0,[],[],[],[]),(n,[],[],List.replicate n.toNat (0:Int),[]),())
theorem az0(n:Int)(from_ to:List Int)(hok:ab (okL nw.args (n,from_,to,())))(hpre:ab (nw.pre (n,from_,to,()))):agx n from_ to (fun r=>r=nw.res (n,from_,to,())):=by
 simp only[nw,okL,T.oks,T.ok,ap,ab,a0f,a0c,a0g]at hok hpre
 try dsimp only[T.den]at hok hpre
 delta agx Ik Iq Ix Oc Ol Om
 dsimp -proj -eta only;obtain⟨n0,n8,ht,hf⟩:=hpre;have hm:=@cas n from_ to;have hx:=@bzf n from_ to n8;refine⟨n0,n8,ht,hf,n0,a02 _,by omega,by omega,?_⟩;simp only[nw,y7];generalize ale n from_ to=l at *;have hg:∀{i:Int},0<=i->i<l.length->(0<=(pAt l i).1/\(pAt l i).1<n)/\(pAt l i).2.2.length<=42:=fun h0 h1=>hm (cp l _ h0 h1);refine bq (fun (s:(cex×ce1))=>0<=s.1.2.2.1/\s.1.2.2.1<=l.length/\s.2.2.1=(n,((l.take s.1.2.2.1.toNat).map (·.1),((l.take s.1.2.2.1.toNat).map (·.2.1),(amj l n s.1.2.2.1.toNat,[]))))) (fun (s:(cex×ce1))=>(l.length-s.1.2.2.1).toNat) ?_ ⟨by simp,by simp,rfl⟩;rintro⟨⟨_,_,i,_⟩,o1,c,_⟩ next ⟨i0,i1,q⟩ hnx
 intros
 try dsimp only at i0 i1 q hnx⊢
 subst q;refine bd (fun hi=>?_) (fun hi=>?_)
 ·have hp:=hg i0 hi;have ht:=mm l (0,(0,[])) i0 hi;have hs:=btt (l:=l) (n:=n) i0;have hl:((l.take i.toNat).map (·.1)).length=i.toNat:=by rw[a00,a03];omega
  have hl2:((l.take i.toNat).map (·.2.1)).length=i.toNat:=by rw[a00,a03];omega
  have hil:=@azh l n i.toNat;have hc:(n,((l.take (i+1).toNat).map (·.1),((l.take (i+1).toNat).map (·.2.1),(amj l n (i+1).toNat,([]:List (List Int))))))=(n,((l.take i.toNat).map (·.1)++[(pAt l i).1],((l.take i.toNat).map (·.2.1)++[(pAt l i).2.1],(amj l n (i+1).toNat,[])))):=by rw[ht,a2m,a2m];rfl
  refine⟨i0,hi,ck (by rw[hl];simp only[a0h,a0i];omega),i0,hi,ck (by rw[hl2];simp only[a0h,a0i];omega),i0,hi,cz (fun (q:(ce6×ce1))=>q.2.2.1=(n,((l.take (i+1).toNat).map (·.1),((l.take (i+1).toNat).map (·.2.1),(amj l n (i+1).toNat,([]:List (List Int))))))) ?_ ?_⟩
  ·rintro⟨_,o2,c2,_⟩ q2;intros
   try dsimp only at q2⊢
   subst q2;exact⟨by rw[au];(try dsimp only);omega,hnx _ ⟨by dsimp only;omega,by dsimp only;omega,rfl⟩ (by dsimp only;omega)⟩
  ·intro k hk;rw[hc,hs]at hk;refine ba (fun h=>?_) (fun h=>?_)
   ·have h0:(pAt l i).2.2.length=0:=(by have:(((pAt l i).2.2.length:Nat):Int)=0:=eq_of_beq h;omega);rw[a0a h0]at hk;exact⟨i0,hi,hp.1.1,by rw[hil];show (pAt l i).1<_;omega,hk _ rfl⟩
   ·have h0:¬(pAt l i).2.2.length=0:=(by have:¬(((pAt l i).2.2.length:Nat):Int)=0:=a35.1 h;omega);rw[ds h0]at hk;exact hk _ rfl
 have ei:i=l.length:=by omega
 subst ei;clear hnx;rw[a0y,List.take_length];simp only[a00];refine ba (fun h=>?_) (fun h=>?_)
 ·have h40:¬l.length<=40:=by simp only[a1z,a3k,a1o]at h;omega
  unfold bqi;rw[ds h40];rfl
 have h40:l.length<=40:=by simp only[a2t,a0b,a0w]at h;omega
 have hcat:bqi n l=ax5 n l (bh l.length (fun i=>bh l.length (aed l i))):=by unfold bqi;rw[a0a h40]
 rw[hcat];refine bq (fun (s:(cex×ce1))=>0<=s.1.2.2.1/\s.1.2.2.1<=l.length/\s.2.2.1=ax5 n l (bh s.1.2.2.1.toNat (fun i=>bh l.length (aed l i)))) (fun (s:(cex×ce1))=>(l.length-s.1.2.2.1).toNat) ?_ ⟨by simp,by simp,rfl⟩;rintro⟨⟨_,_,i,_⟩,o1,c,_⟩ next ⟨i0,i1,q⟩ hnx
 intros
 try dsimp only at i0 i1 q hnx⊢
 subst q;refine bd (fun hi=>?_) (fun hi=>?_)
 ·have hp:=hg i0 hi;refine bq (fun (s:ce3)=>0<=s.1.2.2.2.1/\s.1.2.2.2.1<=l.length/\s.2.2.1=ax5 n l (bh i.toNat (fun i=>bh l.length (aed l i)))/\s.2.2.2.1=bh s.1.2.2.2.1.toNat (aed l i)) (fun (s:ce3)=>(l.length-s.1.2.2.2.1).toNat) ?_ ⟨by simp,by simp,rfl,rfl⟩;rintro⟨⟨_,_,_,j,_⟩,o2,c,r,_⟩ next1 ⟨j0,j1,q,qr⟩ hn1;intros
  try dsimp only at j0 j1 q qr hn1⊢
  subst q;subst qr;refine bd (fun hj=>?_) (fun hj=>?_)
  ·have hq:=hg j0 hj;refine⟨i0,hi,j0,hj,cz (fun (q:ce3)=>q.1.2.2.2.1=aed l i j/\q.2.2.1=ax5 n l (bh i.toNat (fun i=>bh l.length (aed l i)))/\q.2.2.2.1=bh j.toNat (aed l i)) ?_ ?_⟩
   ·rintro⟨⟨_,_,_,h,_⟩,o3,c3,r3,_⟩ ⟨e1,e2,e3⟩;intros
    try dsimp only at e1 e2 e3⊢
    subst e1;subst e2;subst e3;exact⟨ck (by rw[bj];simp only[a0h,a0i];omega),by rw[au];(try dsimp only);omega,hn1 _ ⟨by dsimp only;omega,by dsimp only;omega,rfl,(kq j0).symm⟩ (by dsimp only;omega)⟩
   ·intro k hk;refine ba (fun h=>?_) (fun h=>?_)
    ·have he:(pAt l i).2.1=(pAt l j).1:=eq_of_beq h;refine⟨i0,hi,by have:=hp.2;unfold pAt at this;omega,j0,hj,ck (by have:=hp.2;have:=hq.2;unfold pAt at *;omega),?_⟩;have hcm:aed l i j=arj l.length (apv l i j):=by unfold aed;rw[a0a he]
     rw[hcm]at hk;refine bq (fun (s:cfs)=>0<=s.1.2.2.2.2.1/\s.1.2.2.2.2.1<=l.length/\s.1.2.2.2.1=arj s.1.2.2.2.2.1.toNat (apv l i j)/\s.2.2.1=ax5 n l (bh i.toNat (fun i=>bh l.length (aed l i)))/\s.2.2.2.1=bh j.toNat (aed l i)) (fun (s:cfs)=>(l.length-s.1.2.2.2.2.1).toNat) ?_ ⟨by simp,by simp,rfl,rfl,rfl⟩;rintro⟨⟨_,_,_,h,m,_⟩,o3,c3,r3,_⟩ next3 ⟨m0,m1,e1,e2,e3⟩ hn3;intros
     try dsimp only at m0 m1 e1 e2 e3 hn3⊢
     subst e1;subst e2;subst e3;refine bd (fun hm=>?_) (fun hm=>?_)
     ·refine⟨m0,hm,i0,hi,fun _=>⟨hm,m0⟩,cz (fun (q:ce3)=>q.1.2.2.2.1=arj (m+1).toNat (apv l i j)/\q.2.2.1=ax5 n l (bh i.toNat (fun i=>bh l.length (aed l i)))/\q.2.2.2.1=bh j.toNat (aed l i)) ?_ ?_⟩
      ·rintro⟨⟨_,_,_,h,_⟩,o4,c4,r4,_⟩ ⟨e1,e2,e3⟩;intros
       try dsimp only at e1 e2 e3⊢
       subst e1;subst e2;subst e3;exact⟨by rw[au];(try dsimp only);omega,hn3 _ ⟨by dsimp only;omega,by dsimp only;omega,rfl,rfl,rfl⟩ (by dsimp only;omega)⟩
      ·intro k1 hk1;rw[cbo m0]at hk1;refine ba (fun hb=>?_) (fun hb=>?_)
       ·exact hk1 _ ⟨(a0a hb).symm,rfl,rfl⟩
       ·exact hk1 _ ⟨(ds (by show ¬apv l i j m=true;exact fun h=>by rw[show apv l i j m=false from hb]at h;cases h)).symm,rfl,rfl⟩
     ·have em:m=l.length:=by omega
      subst em;exact hk _ ⟨rfl,rfl,rfl⟩
    ·have he:¬(pAt l i).2.1=(pAt l j).1:=a35.1 h;have hcm:aed l i j=-1:=by unfold aed;rw[ds he]
     rw[hcm]at hk;exact hk _ ⟨rfl,rfl,rfl⟩
  ·have ej:j=l.length:=by omega
   subst ej;refine⟨ck (by show ((bh i.toNat _).length+_)*24<=_;rw[bj];simp only[a0h,a0i];omega),by rw[au];(try dsimp only);omega,hnx _ ⟨by dsimp only;omega,by dsimp only;omega,?_⟩ (by dsimp only;omega)⟩
   try dsimp only
   rw[kq i0];rfl
 ·have ei:i=l.length:=by omega
  subst ei;rfl
theorem zy:bw Tryz.prog 126 nw:=ctb (ae mz (ae anr (ae abz (ae bej az)))) bg 126 Tryz.f126 nw ax7 [(20,10),(21,511),(6,508),(7,508),(25,18),(9,508)] (fun x K=>agx x.1 x.2.1 x.2.2.1 K) (fun x h1 h2=>az0 x.1 x.2.1 x.2.2.1 h1 h2)
structure PoC (n b:Int) (c:aa):Prop where
 ob:c.1=n
 lt:c.2.2.1.length=c.2.1.length
 m:(c.2.1.length:Int)<=b
 fr:∀x∈c.2.1,0<=x/\x<n
 to:∀x∈c.2.2.1,0<=x/\x<n
theorem PoC.le{n a b:Int}{c:aa}(h:PoC n a c)(hb:a<=b):PoC n b c:=⟨h.ob,h.lt,by have:=h.m;omega,h.fr,h.to⟩
structure NumL (k b:Int) (w:List Int):Prop where
 l:(w.length:Int)=k
 e:∀x∈w,-b<=x/\x<=64
theorem NumL.push{k b x:Int}{l:List Int}(h:NumL k b l)(h0:-b<=x)(h1:x<=64):NumL (k+1) b (l++[x]):=
 ⟨by rw[a0m];have:=h.l;simp only[a0h,a0i];omega,fun y hy=>by
  rcases a07.1 hy with hy|hy
  ·exact h.e y hy
  ·rw[a0s.1 hy];exact⟨h0,h1⟩⟩
theorem NumL.at{k b i:Int}{l:List Int}(h:NumL k b l)(h0:0<=i)(h1:i<k):-b<=l.getD i.toNat 0/\l.getD i.toNat 0<=64:=h.e _ (cp l 0 h0 (by have:=h.l;omega))
structure NumT (k n b:Int) (t:List (List Int)):Prop where
 l:(t.length:Int)=k
 e:∀r∈t,NumL n b r
theorem NumT.push{k n b:Int}{t:List (List Int)}{r:List Int}(h:NumT k n b t)(hr:NumL n b r):NumT (k+1) n b (t++[r]):=
 ⟨by rw[a0m];have:=h.l;simp only[a0h,a0i];omega,fun y hy=>by
  rcases a07.1 hy with hy|hy
  ·exact h.e y hy
  ·rw[a0s.1 hy];exact hr⟩
theorem NumT.at{k n b i:Int}{t:List (List Int)}(h:NumT k n b t)(h0:0<=i)(h1:i<k):NumL n b (t.getD i.toNat []):=h.e _ (cp t [] h0 (by have:=h.l;omega))
def bl3(F T:List Int)(h a b:Int):Prop:=0<=h/\h<F.length/\F.getD h.toNat 0=a/\T.getD h.toNat 0=b
theorem bl3.app{F T:List Int}{h a b x y:Int}(hl:T.length=F.length)(H:bl3 F T h a b):bl3 (F++[x]) (T++[y]) h a b:=by obtain⟨h0,h1,h2,h3⟩:=H;exact⟨h0,by rw[a0m];simp only[a0h,a0i];omega,by rw[wq h0 h1];exact h2,by rw[wq h0 (by omega)];exact h3⟩
structure PoG (rel:List (List Int)) (n:Int) (num:List (List Int)) (F T:List Int) (i j:Int) (row:List Int):Prop where
 a:∀a b:Int,0<=a->a<i->0<=b->b<n->ja rel a b=1->bl3 F T (ja num a b) a b
 r:∀b:Int,0<=b->b<j->ja rel i b=1->bl3 F T (row.getD b.toNat 0) i b
 k:∀f:Int,0<=f->f<F.length->ja rel (F.getD f.toNat 0) (T.getD f.toNat 0)=1
theorem PoG.yes{rel:List (List Int)}{n:Int}{num:List (List Int)}{F T:List Int}{i j:Int}{row:List Int}(h:PoG rel n num F T i j row)(hl:T.length=F.length)(hr:(row.length:Int)=j)(h1:ja rel i j=1):PoG rel n num (F++[i]) (T++[j]) i (j+1) (row++[(F.length:Int)]):=by
 refine⟨fun a b a0 a1 b0 b1 e=>(h.a a b a0 a1 b0 b1 e).app hl,fun b b0 b1 e=>?_,fun f f0 f1=>?_⟩
 ·by_cases hb:b<j
  ·rw[wq b0 (by omega)];exact (h.r b b0 hb e).app hl
  ·have:b=j:=by omega
   subst this;rw[aby (by omega),show (b-(row.length:Int)).toNat=0 by omega];refine⟨by simp,by simp;omega,?_,?_⟩
   ·simp only[a31];rw[aby (a02 _),Int.sub_self];rfl
   ·simp only[a31];rw[aby (by omega),show ((F.length:Int)-T.length).toNat=0 by omega];rfl
 ·rw[a0m]at f1;simp only[a0h,a0i]at f1;by_cases hf:f<F.length
  ·rw[wq f0 hf,wq f0 (by omega)];exact h.k f f0 hf
  ·rw[aby (by omega),aby (by omega),show (f-(F.length:Int)).toNat=0 by omega,show (f-(T.length:Int)).toNat=0 by omega];exact h1
theorem PoG.no{rel:List (List Int)}{n:Int}{num:List (List Int)}{F T:List Int}{i j:Int}{row:List Int}{x:Int}(h:PoG rel n num F T i j row)(hr:(row.length:Int)=j)(h1:ja rel i j≠1):PoG rel n num F T i (j+1) (row++[x]):=by
 refine⟨h.a,fun b b0 b1 e=>?_,h.k⟩;by_cases hb:b<j
 ·rw[wq b0 (by omega)];exact h.r b b0 hb e
 ·have:b=j:=by omega
  subst this;exact absurd e h1
theorem PoG.next{rel:List (List Int)}{n:Int}{num:List (List Int)}{F T:List Int}{i:Int}{row:List Int}(h:PoG rel n num F T i n row)(hn:(num.length:Int)=i):PoG rel n (num++[row]) F T (i+1) 0 []:=by
 refine⟨fun a b a0 a1 b0 b1 e=>?_,fun b b0 b1=>by omega,h.k⟩;unfold ja;by_cases ha:a<i
 ·rw[wq a0 (by omega)];exact h.a a b a0 ha b0 b1 e
 ·have:a=i:=by omega
  subst this;rw[aby (by omega),show (a-(num.length:Int)).toNat=0 by omega];exact h.r b b0 b1 e
def poH(num:List (List Int))(F T:List Int)(f g:Int):Int:=if T.getD f.toNat 0=F.getD g.toNat 0 then ja num (F.getD f.toNat 0) (T.getD g.toNat 0)else -1
theorem cea{rel num:List (List Int)}{n b:Int}{F T I:List Int}{W:List (List Int)}(P:PreP rel)(hn:(rel.length:Int)=n)(C:PoC n b (n,F,T,I,W))(G:PoG rel n num F T n 0 [])(hI:I=bh n.toNat fun y=>ja num y y)(hW:W=bh F.length fun f=>bh F.length (poH num F T f)):TyP (n,F,T,I,W):=by
 have hlt:T.length=F.length:=C.lt;have n0:0<=n:=by omega
 have fr:∀f:Int,0<=f->f<F.length->0<=F.getD f.toNat 0/\F.getD f.toNat 0<n:=fun f f0 f1=>C.fr _ (cp F 0 f0 f1);have to:∀f:Int,0<=f->f<F.length->0<=T.getD f.toNat 0/\T.getD f.toNat 0<n:=fun f f0 f1=>C.to _ (cp T 0 f0 (by omega));have gC:∀f g:Int,0<=f->f<F.length->0<=g->g<F.length->bi (n,F,T,I,W) f g=poH num F T f g:=fun f g f0 f1 g0 g1=>by show (W.getD f.toNat []).getD g.toNat 0=_;rw[hW,d6 f0 f1,d6 g0 g1]
 refine⟨n0,hlt,by show (I.length:Int)=n;rw[hI,bj];omega,by show W.length=F.length;rw[hW,bj],fun f f0 f1=>?_,fr,to,fun x x0 x1=>?_,fun f g f0 f1 g0 g1 e=>?_,fun f g f0 f1 g0 g1 e=>?_⟩
 ·show (W.getD f.toNat []).length=F.length;rw[hW,d6 f0 f1,bj]
 ·have x1:x<n:=x1;have:=G.a x x x0 x1 x0 x1 (P.r x x0 (by omega));show 0<=I.getD x.toNat 0/\I.getD x.toNat 0<F.length/\F.getD (I.getD x.toNat 0).toNat 0=x/\T.getD (I.getD x.toNat 0).toNat 0=x;rw[hI,d6 x0 (by omega)];exact this
 ·have e:T.getD f.toNat 0=F.getD g.toNat 0:=e;have a1:=fr f f0 f1;have a2:=to f f0 f1;have b2:=to g g0 g1;have h1:=G.k f f0 f1;have h2:=G.k g g0 g1;rw[←e]at h2;have:=G.a _ _ a1.1 a1.2 b2.1 b2.2 (P.t _ _ _ a1.1 (by omega) a2.1 (by omega) b2.1 (by omega) h1 h2);rw[gC f g f0 f1 g0 g1];unfold poH;rw[a0a e];exact this
 ·have e:T.getD f.toNat 0≠F.getD g.toNat 0:=e;rw[gC f g f0 f1 g0 g1];unfold poH;rw[ds e]
def jr:Ct:=⟨[wm],[false],fun x=>[RowP x.1.length x.1,x.1.length<=8],[(true,iw)],fun _=>dfR _,false,none⟩
def xd(rel:List (List Int))(r0:aa):Prop:=CgR 64 r0/\r0.1=(rel.length:Int)/\(r0.2.1.length:Int)<=8*rel.length/\(PreP rel->TyP r0)
def al5:Ann:=(.s .n (.s .n (.s .n (.s .n (.s (.s .n (.l [(2,(.ad 2 [.de])),(4,(.ref 800004 [])),(5,(.ad 5 [.de])),(6,(.d bc))] [(2,gh),(800004,vp),(5,gh)] [0,3] (.s .n (.s (.s .n (.s (.s .n (.l [(2,(.ad 2 [.de])),(4,(.ref 800004 [])),(5,(.ad 5 [.de])),(7,(.ref 800007 [])),(8,(.d bc))] byz [0,3,6] (.s .n (.s (.s .n (.s .n (.j [(2,(.ad 2 [.de])),(4,(.ref 800004 [])),(5,(.ad 5 [.de])),(7,(.ref 800007 []))] byz [0,3,6,8] .n))) .n)))) .n)) .n)))) (.s (.s .n (.l [(2,(.ad 2 [.de])),(5,(.ad 5 [.de])),(9,(.d bc))] [(2,gh),(5,gh)] [3,4] .n)) (.s (.s .n (.l [(2,(.ad 2 [.de])),(5,(.ad 5 [.de])),(10,(.d bc))] [(2,gh),(5,gh)] [4] (.s .n (.s (.s .n (.s (.s .n (.l [(2,(.ad 2 [.de])),(5,(.ad 5 [.de])),(11,(.ref 800011 [])),(12,(.d bc))] [(2,gh),(5,gh),(800011,dq)] [4,10] (.s .n (.s (.s .n (.s (.s .n (.j [(2,(.ad 2 [.de])),(5,(.ad 5 [.de])),(11,(.ref 800011 [])),(13,(.d bc))] [(2,gh),(5,gh),(800011,dq)] [4,10,12] .n)) .n)) .n)))) .n)) .n)))) .n)))))))
def x6(rel:List (List Int))(K:aa×Unit->Prop):Prop:=let a1:=rel.length;bn (S:=cfy) (fun a b=>let r:=a.1.2.2.2.1;Iq r<|Oc a.2.1<|Om a.2.2.1<|Oc a.2.2.2.1<|cnd (decide (r<(a1:Int))) (bn (S:=(ce9×cfw)) (fun c d=>let a5:=c.2.2.1;let q:=c.1.2.2.2.2.1;let p:=c.2.2.2;let z:=p.1.2.1.length;Iq q<|Oc c.2.1<|Om a5<|Oc p.1<|Ol p.2.1<|cnd (decide (q<(a1:Int))) (c9 p.2.1.length [(z:Int)].length 8/\(Ix r a1<|Ix q (rel.getD r.toNat []).length<|dk (S:=(cf8×cfw)) (fun e=>Oc e.2.1<|Om e.2.2.1<|Oc e.2.2.2.1<|Ol e.2.2.2.2.1<|Ik (q+1)<|d (((),(),(),(),q+1,()),e.2.1,e.2.2.1,e.2.2.2.1,e.2.2.2.2.1,())) (fun f=>cnd ((rel.getD r.toNat []).getD q.toNat 0==1) (c9 z [r].length 8/\c9 p.1.2.2.1.length [q].length 8/\f (((),(),(),(),()),c.2.1,a5,(p.1.1,p.1.2.1++[r],p.1.2.2.1++[q],p.1.2.2.2),p.2.1++[(z:Int)],())) (f (((),(),(),(),()),c.2.1,a5,p.1,p.2.1++[(z:Int)],()))))) (c9 a5.length [p.2.1].length 24/\(Ik (r+1)<|b (((),(),(),r+1,()),c.2.1,a5++[p.2.1],p.1,())))) (((),(),(),(),0,()),a.2.1,a.2.2.1,a.2.2.2.1,[],())) (bn (S:=(cex×ce1)) (fun g h=>let a0:=g.2.2.1;let u:=g.1.2.2.1;let y:=a.2.2.1.getD u.toNat [];Iq u<|Oc g.2.1<|Oc a0<|cnd (decide (u<(a1:Int))) (Ix u a.2.2.1.length<|Ix u y.length<|c9 a0.2.2.2.1.length [y.getD u.toNat 0].length 8/\(Ik (u+1)<|h (((),(),u+1,()),g.2.1,(a0.1,a0.2.1,a0.2.2.1,a0.2.2.2.1++[y.getD u.toNat 0],a0.2.2.2.2),()))) (bn (S:=(cex×ce1)) (fun i j=>let x:=i.1.2.2.1;Iq x<|Oc i.2.1<|Oc i.2.2.1<|cnd (decide (x<(i.2.2.1.2.1.length:Int))) (bn (S:=ce3) (fun l m=>let a2:=l.2.2.2.1;let w:=l.2.2.1;let a6:=w.2.1.length;let v:=w.2.1.getD x.toNat 0;let a3:=a.2.2.1.getD v.toNat [];let t:=l.1.2.2.2.1;let a4:=w.2.2.1.getD t.toNat 0;Iq t<|Oc l.2.1<|Oc w<|Ol a2<|cnd (decide (t<(a6:Int))) (Ix x w.2.2.1.length<|Ix t a6<|dk (S:=ce3) (fun n=>Iq n.1.2.2.2.1<|Oc n.2.1<|Oc n.2.2.1<|Ol n.2.2.2.1<|c9 n.2.2.2.1.length [n.1.2.2.2.1].length 8/\(Ik (t+1)<|m (((),(),(),t+1,()),n.2.1,n.2.2.1,n.2.2.2.1++[n.1.2.2.2.1],()))) (fun o=>cnd (w.2.2.1.getD x.toNat 0==w.2.1.getD t.toNat 0) (Ix x a6<|Ix v a.2.2.1.length<|Ix t w.2.2.1.length<|Ix a4 a3.length<|o (((),(),(),a3.getD a4.toNat 0,()),l.2.1,w,a2,())) (o (((),(),(),-1,()),l.2.1,w,a2,())))) (c9 w.2.2.2.2.length [a2].length 24/\(Ik (x+1)<|j (((),(),x+1,()),l.2.1,(w.1,w.2.1,w.2.2.1,w.2.2.2.1,w.2.2.2.2++[a2]),())))) (((),(),(),0,()),i.2.1,i.2.2.1,[],())) (K (i.2.2.1,()))) (((),(),0,()),g.2.1,a0,()))) (((),(),0,()),a.2.1,a.2.2.2.1,()))) (((),(),(),0,()),(0,[],[],[],[]),[],((a1:Int),[],[],[],[]),())
theorem azy(rel:List (List Int))(hok:ab (okL jr.args (rel,())))(hpre:ab (jr.pre (rel,()))):x6 rel (fun r=>xd rel r.1):=by
 simp only[jr,okL,T.oks,T.ok,ap,ab,a0f,a0c,a0g]at hok hpre
 try dsimp only[T.den]at hok hpre
 delta x6 xd Ik Iq Ix Oc Ol Om
 dsimp -proj -eta only;obtain⟨hR,h8⟩:=hpre;clear hok;generalize hn:rel.length=n0 at *;obtain⟨n,hnn⟩:∃n:Int,n=(n0:Int):=⟨_,rfl⟩;rw[←hnn]at hR⊢;have n0':0<=n:=by omega
 have n8:n<=8:=by omega
 have rl:(rel.length:Int)=n:=by omega
 refine bq (fun (s:cfy)=>0<=s.1.2.2.2.1/\s.1.2.2.2.1<=n/\NumT s.1.2.2.2.1 n 0 s.2.2.1/\(PoC n (8*s.1.2.2.2.1) s.2.2.2.1/\PoG rel n s.2.2.1 s.2.2.2.1.2.1 s.2.2.2.1.2.2.1 s.1.2.2.2.1 0 [])/\s.2.2.2.1.2.2.2=([],[])) (fun (s:cfy)=>(n-s.1.2.2.2.1).toNat) ?_ ⟨by simp,by simpa using n0',⟨rfl,by simp⟩,⟨⟨rfl,rfl,by simp,by simp,by simp⟩,⟨fun a b a0 a1=>by dsimp only at a1;omega,fun b b0 b1=>by omega,fun f f0 f1=>by simp at f1;omega⟩⟩,rfl⟩;rintro⟨⟨_,_,_,i,_⟩,o1,num,c,_⟩ next ⟨i0,i1,hN,⟨hP,hG⟩,hz⟩ hnx
 intros
 try dsimp only at i0 i1 hN hP hG hz hnx⊢
 refine bd (fun hi=>?_) (fun hi=>?_)
 ·refine bq (fun (s:(ce9×cfw))=>0<=s.1.2.2.2.2.1/\s.1.2.2.2.2.1<=n/\s.2.2.1=num/\(PoC n (8*i+s.1.2.2.2.2.1) s.2.2.2.1/\PoG rel n num s.2.2.2.1.2.1 s.2.2.2.1.2.2.1 i s.1.2.2.2.2.1 s.2.2.2.2.1)/\s.2.2.2.1.2.2.2=([],[])/\NumL s.1.2.2.2.2.1 0 s.2.2.2.2.1) (fun (s:(ce9×cfw))=>(n-s.1.2.2.2.2.1).toNat) ?_ ⟨by simp,by simpa using n0',rfl,⟨hP.le (by (try dsimp only);omega),hG⟩,hz,⟨rfl,by simp⟩⟩;rintro⟨⟨_,_,_,_,j,_⟩,o2,num2,c2,row,_⟩ next2 ⟨j0,j1,q1,⟨hP2,hG2⟩,hz2,hL⟩ hn2;intros
  try dsimp only at j0 j1 q1 hP2 hG2 hz2 hL hn2⊢
  subst q1;have m2:=hP2.m;have l2:=hP2.lt;have ll:=hL.l;refine bd (fun hj=>?_) (fun hj=>?_)
  ·have hr:=hR.row (i:=i) i0 (by omega);refine⟨ck (by simp only[a0h,a0i];omega),i0,by omega,j0,by omega,cz (fun (q:(cf8×cfw))=>q.2.2.1=num2/\(PoC n (8*i+(j+1)) q.2.2.2.1/\PoG rel n num2 q.2.2.2.1.2.1 q.2.2.2.1.2.2.1 i (j+1) q.2.2.2.2.1)/\q.2.2.2.1.2.2.2=([],[])/\NumL (j+1) 0 q.2.2.2.2.1) ?_ (fun k hk=>ba (fun hone=>⟨ck (by simp only[a0h,a0i];omega),ck (by simp only[a0h,a0i];omega),hk _ ⟨rfl,⟨⟨hP2.ob,?_,?_,?_,?_⟩,hG2.yes l2 ll (by unfold ja;simpa using hone)⟩,hz2,hL.push (by omega) (by omega)⟩⟩) (fun hone=>hk _ ⟨rfl,⟨hP2.le (by omega),hG2.no ll (by unfold ja;simpa using hone)⟩,hz2,hL.push (by omega) (by omega)⟩))⟩
   ·rintro⟨_,o3,num3,c3,row3,_⟩ ⟨q1,q2,q3,q4⟩;intros
    try dsimp only at q1 q2 q3 q4⊢
    exact⟨by rw[au];(try dsimp only);omega,hn2 _ ⟨by dsimp only;omega,by dsimp only;omega,q1,q2,q3,q4⟩ (by first|omega|(dsimp only;omega))⟩
   ·try dsimp only;simp only[a0m,a0h,a0i];omega
   ·try dsimp only;simp only[a0m,a0h,a0i];omega
   ·try dsimp only;intro x hx
    rcases a07.1 hx with hx|hx
    ·exact hP2.fr x hx
    ·rw[a0s.1 hx];omega
   ·try dsimp only;intro x hx
    rcases a07.1 hx with hx|hx
    ·exact hP2.to x hx
    ·rw[a0s.1 hx];omega
  ·have e:j=n:=by omega
   rw[e]at hL hP2 hG2;have:=hN.l;exact⟨ck (by simp only[a0h,a0i];omega),by rw[au];(try dsimp only);omega,hnx _ ⟨by dsimp only;omega,by dsimp only;omega,hN.push hL,⟨hP2.le (by dsimp only;omega),hG2.next this⟩,hz2⟩ (by first|omega|(dsimp only;omega))⟩
 have ei:i=n:=by omega
 rw[ei]at hN hP hG;replace hP:=hP.le (b:=8*n) (by omega);have nl:=hN.l;refine bq (fun (s:(cex×ce1))=>0<=s.1.2.2.1/\s.1.2.2.1<=n/\(PoC n (8*n) s.2.2.1/\s.2.2.1.2.1=c.2.1/\s.2.2.1.2.2.1=c.2.2.1/\s.2.2.1.2.2.2.1=bh s.1.2.2.1.toNat fun y=>ja num y y)/\s.2.2.1.2.2.2.2=[]/\NumL s.1.2.2.1 0 s.2.2.1.2.2.2.1) (fun (s:(cex×ce1))=>(n-s.1.2.2.1).toNat) ?_ ⟨by simp,by simpa using n0',⟨hP,rfl,rfl,by dsimp only;rw[hz];simp[bh]⟩,by dsimp only;rw[hz],by dsimp only;rw[hz];exact⟨rfl,by simp⟩⟩;rintro⟨⟨_,_,y,_⟩,o2,c2,_⟩ next1 ⟨y0,y1,⟨hP2,eF,eT,eI⟩,hz2,hL⟩ hn1;intros
 try dsimp only at y0 y1 hP2 eF eT eI hz2 hL hn1⊢
 have ll:=hL.l;refine bd (fun hy=>?_) (fun hy=>?_)
 ·have hr:=hN.at y0 (by omega);have hrl:=hr.l;have hv:=hr.at y0 (by omega);exact⟨y0,by omega,y0,by omega,ck (by simp only[a0h,a0i];omega),by rw[au];(try dsimp only);omega,hn1 _ ⟨by dsimp only;omega,by dsimp only;omega,⟨⟨hP2.ob,hP2.lt,hP2.m,hP2.fr,hP2.to⟩,eF,eT,by dsimp only;rw[eI,kq y0];rfl⟩,hz2,hL.push hv.1 hv.2⟩ (by first|omega|(dsimp only;omega))⟩
 have ey:y=n:=by omega
 rw[ey]at hL eI;have m2:=hP2.m;have l2:=hP2.lt;refine bq (fun (s:(cex×ce1))=>0<=s.1.2.2.1/\s.1.2.2.1<=c2.2.1.length/\s.2.2.1.1=c2.1/\s.2.2.1.2.1=c2.2.1/\s.2.2.1.2.2.1=c2.2.2.1/\s.2.2.1.2.2.2.1=c2.2.2.2.1/\NumT s.1.2.2.1 c2.2.1.length 64 s.2.2.1.2.2.2.2/\s.2.2.1.2.2.2.2=bh s.1.2.2.1.toNat fun f=>bh c2.2.1.length (poH num c2.2.1 c2.2.2.1 f)) (fun (s:(cex×ce1))=>(c2.2.1.length-s.1.2.2.1).toNat) ?_ ⟨by simp,by simp,rfl,rfl,rfl,rfl,by dsimp only;rw[hz2];exact⟨rfl,by simp⟩,by dsimp only;rw[hz2];simp[bh]⟩;rintro⟨⟨_,_,f,_⟩,o3,⟨c31,c32,c33,c34,c35⟩,_⟩ next2 ⟨f0,f1,q1,q2,q3,q4,hT,eW⟩ hn2;intros
 try dsimp only at f0 f1 q1 q2 q3 q4 hT eW hn2⊢
 subst q1;subst q2;subst q3;subst q4;have tl:=hT.l;refine bd (fun hf=>?_) (fun hf=>?_)
 ·refine bq (fun (s:ce3)=>0<=s.1.2.2.2.1/\s.1.2.2.2.1<=c2.2.1.length/\s.2.2.1=(c2.1,c2.2.1,c2.2.2.1,c2.2.2.2.1,c35)/\(NumL s.1.2.2.2.1 64 s.2.2.2.1/\s.2.2.2.1=bh s.1.2.2.2.1.toNat (poH num c2.2.1 c2.2.2.1 f))) (fun (s:ce3)=>(c2.2.1.length-s.1.2.2.2.1).toNat) ?_ ⟨by simp,by simp,rfl,⟨rfl,by simp⟩,by simp[bh]⟩;rintro⟨⟨_,_,_,g,_⟩,o4,c4,row,_⟩ next3 ⟨g0,g1,q1,hL3,eR⟩ hn3;intros
  try dsimp only at g0 g1 q1 hL3 eR hn3⊢
  subst q1
  try dsimp only
  have ll3:=hL3.l;refine bd (fun hg=>?_) (fun hg=>?_)
  ·have a1:=hP2.fr _ (cp c2.2.1 0 f0 hf);have a2:=hP2.to _ (cp c2.2.2.1 0 g0 (by omega));have hr:=hN.at a1.1 a1.2;have hrl:=hr.l;have hv:=hr.at a2.1 a2.2;refine⟨f0,by omega,g0,hg,cz (fun (q:ce3)=>(-64<=q.1.2.2.2.1/\q.1.2.2.2.1<=64/\q.1.2.2.2.1=poH num c2.2.1 c2.2.2.1 f g)/\q.2.2.1=(c2.1,c2.2.1,c2.2.2.1,c2.2.2.2.1,c35)/\q.2.2.2.1=row) ?_ (fun k hk=>ba (fun hq=>⟨f0,hf,a1.1,by omega,g0,by omega,a2.1,by omega,hk _ ⟨⟨by dsimp only;omega,by dsimp only;omega,by dsimp only;unfold poH;rw[a0a (by simpa using hq)];rfl⟩,rfl,rfl⟩⟩) (fun hq=>hk _ ⟨⟨by dsimp only;omega,by dsimp only;omega,by dsimp only;unfold poH;rw[ds (by simpa using hq)]⟩,rfl,rfl⟩))⟩;rintro⟨⟨_,_,_,h,_⟩,o5,c5,row5,_⟩ ⟨⟨q1,q2,q5⟩,q3,q4⟩;intros
   try dsimp only at q1 q2 q3 q4 q5⊢
   subst q3;subst q4;exact⟨ck (by simp only[a0h,a0i];omega),by rw[au];(try dsimp only);omega,hn3 _ ⟨by dsimp only;omega,by dsimp only;omega,rfl,hL3.push q1 q2,by dsimp only;rw[eR,kq g0,q5]⟩ (by first|omega|(dsimp only;omega))⟩
  ·have e:g=c2.2.1.length:=by omega
   rw[e]at hL3 eR;exact⟨ck (by simp only[a0h,a0i];omega),by rw[au];(try dsimp only);omega,hn2 _ ⟨by dsimp only;omega,by dsimp only;omega,rfl,rfl,rfl,rfl,hT.push hL3,by dsimp only;rw[eW,kq f0,eR,a0y]⟩ (by first|omega|(dsimp only;omega))⟩
 have ef:f=c2.2.1.length:=by omega
 rw[ef]at hT eW;have hob:=hP2.ob;have tl:=hT.l;have ll:=hL.l;refine⟨⟨by omega,by (try dsimp only);omega,by (try dsimp only);omega,by (try dsimp only);omega,l2,by (try dsimp only);omega,by (try dsimp only);omega,fun x hx=>by have:=hP2.fr x hx;omega,fun x hx=>by have:=hP2.to x hx;omega,fun x hx=>by have:=hL.e x hx;omega,fun r hr=>?_⟩,by (try dsimp only);omega,by (try dsimp only);omega,fun hpre=>?_⟩
 ·have h:=hT.e r hr;exact⟨by have:=h.l;(try dsimp only);omega,h.e⟩
 ·rw[a0y]at eW;have G:PoG rel n num c2.2.1 c2.2.2.1 n 0 []:=by rw[eF,eT];exact hG
  have C:PoC n (8*n) (n,c2.2.1,c2.2.2.1,c2.2.2.2.1,c35):=⟨rfl,hP2.lt,hP2.m,hP2.fr,hP2.to⟩;have:=cea hpre rl C G eI eW;rw[hob];exact this
theorem af8(rel:List (List Int)):∃q:aa×Unit,ab (okL jr.args (rel,()))->ab (jr.pre (rel,()))->x6 rel (fun r=>r=q)/\ab (okR jr.rt q)/\xd rel q.1:=pkb az bg 123 Tryz.f123 jr al5 [(19,510),(28,10),(29,13)] (fun x K=>x6 x.1 K) (fun x r=>xd x.1 r.1) (fun x h1 h2=>azy x.1 h1 h2) (rel,())
def cw(rel:List (List Int)):aa:=(af8 rel).choose.1
theorem anz(rel:List (List Int))(hok:ab (okL jr.args (rel,())))(hpre:ab (jr.pre (rel,()))):ab (okR jr.rt (cw rel,()))/\xd rel (cw rel):=((af8 rel).choose_spec hok hpre).2
def uo:Ct:=⟨[wm],[false],fun x=>[RowP x.1.length x.1,x.1.length<=8],[(true,iw)],fun x=>((cw x.1),()),false,none⟩
theorem lh:bw Tryz.prog 123 uo:=ctb az bg 123 Tryz.f123 uo al5 [(19,510),(28,10),(29,13)] (fun x K=>x6 x.1 K) (fun x h1 h2=>((af8 x.1).choose_spec h1 h2).1)
theorem cdt{c:aa}(C:TyP c):TyP (opR c):=by
 have hlt:=C.lt;have gC:∀f g:Int,0<=f->f<c.2.1.length->0<=g->g<c.2.1.length->bi (opR c) f g=bi c g f:=fun f g f0 f1 g0 g1=>bys f0 f1 g0 g1;have hl:(opR c).2.1.length=c.2.1.length:=hlt;refine⟨C.ob,hlt.symm,C.li,by rw[hl];exact bj _,fun f f0 f1=>?_,fun f f0 f1=>?_,fun f f0 f1=>?_,fun x x0 x1=>?_,fun f g f0 f1 g0 g1 e=>?_,fun f g f0 f1 g0 g1 e=>?_⟩
 ·rw[hl]at f1⊢;show ((bh c.2.1.length fun f=>bh c.2.1.length fun g=>bi c g f).getD f.toNat []).length=_;rw[d6 f0 f1,bj]
 ·rw[hl]at f1;exact C.to f f0 f1
 ·rw[hl]at f1;exact C.fr f f0 f1
 ·have:=C.idn x x0 x1;rw[hl];exact⟨this.1,this.2.1,this.2.2.2,this.2.2.1⟩
 ·rw[hl]at f1 g1⊢;rw[gC f g f0 f1 g0 g1];have y:=C.yes g f g0 g1 f0 f1 e.symm;exact⟨y.1,y.2.1,y.2.2.2,y.2.2.1⟩
 ·rw[hl]at f1 g1;rw[gC f g f0 f1 g0 g1];exact C.no g f g0 g1 f0 f1 (fun h=>e h.symm)
end
end Go.Bm
