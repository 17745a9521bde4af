/- What the functions that FnPathsComposed reaches give: for each its contract, what it asks, and the proof. No condition. -/
import Derived.Test.YtdcandojebpfnaaFnPathsComposedFnsA
namespace Go.Bm
open Go.Proofs
set_option maxRecDepth 100000
set_option maxHeartbeats 1000000
set_option linter.unusedVariables false
set_option linter.unusedSimpArgs false
noncomputable section
def jr:Ct:=⟨[(.sl (.int .i64))],[false],fun x=>[x.1.length<=1099511627776],[(false,(.sl (.fz (.int .i64))))],fun x=>(x.1,()),false,none⟩
def acq (list:List Int) (K:(List Int)×Unit->Prop):Prop:=((fg 0 list.length 8)/\(K (list,())))
theorem az8 (x:bi jr.args) (K:(List Int)×Unit->Prop):evF tab (lkp []) (aw []) Try.f59 (aj Try.f59) .n jr x K=acq x.1 K:=by kernel_rfl
theorem azz:okC Try.f59.ntmps (aw []) (aj Try.f59)=true:=by kernel_rfl
theorem az7 (list:List Int) (hok:ae (okL jr.args (list,()))) (hpre:ae (jr.pre (list,()))):acq list (fun r=>r=jr.res (list,())):=by
 simp only [jr,okL,T.oks,T.ok,ap,ae,true_and,and_true,implies_true]at hok hpre
 try dsimp only [T.den]at hok
 try dsimp only [T.den]at hpre
 unfold acq
 have hl:list.length<=1099511627776:=hpre
 exact ⟨cw (by omega),rfl⟩
theorem xh:dg Try.prog 59 jr:=
 d7 (Φ:=lkp []) ba bo (by kernel_rfl) (fn:=Try.f59) (c:=aj Try.f59) (by kernel_rfl) (by kernel_rfl) (by kernel_rfl) jr rfl .n (aw []) (by kernel_rfl) (by kernel_rfl) azz (by decide) (fun x K=>acq x.1 K) az8 (fun x h1 h2=>az7 x.1 h1 h2)
def xf:List Int->List Int->Bool
 | _,[]=>false
 | [],_::_=>true
 | x::a,y::b=>if x=y then xf a b else decide (x < y)
def km:Ct:=⟨[(.sl (.int .i64)),(.sl (.int .i64))],[false,false],fun x=>[],[(false,(.fz .bool))],fun x=>(xf x.1 x.2.1,()),false,none⟩
def aj2:Ann:=(.s .n (.s (.s .n (.l [(5,(.d (.int .i64)))] [] [0,1] .n)) .n))
def abt (a:List Int) (b:List Int) (K:Bool×Unit->Prop):Prop:=(bu (S:=brl) (fun s=>(fun next=>((inK .i64 s.1.1)->(cnd ((decide (s.1.1 < ((a.length:Nat):Int))) && (decide (s.1.1 < ((b.length:Nat):Int)))) ((0<=s.1.1)/\((s.1.1 < ((a.length:Nat):Int))/\((0<=s.1.1)/\((s.1.1 < ((b.length:Nat):Int))/\(cnd ((List.getD a s.1.1.toNat 0) != (List.getD b s.1.1.toNat 0)) ((0<=s.1.1)/\((s.1.1 < ((a.length:Nat):Int))/\((0<=s.1.1)/\((s.1.1 < ((b.length:Nat):Int))/\(K ((decide ((List.getD a s.1.1.toNat 0) < (List.getD b s.1.1.toNat 0))),())))))) ((inK .i64 (s.1.1+1))/\(next (((s.1.1+1),()),())))))))) (K ((decide (((a.length:Nat):Int) < ((b.length:Nat):Int))),())))))) ((0,()),()))
theorem axk (x:bi km.args) (K:Bool×Unit->Prop):evF tab (lkp []) (aw [(4,8),(5,8)]) Try.f166 (aj Try.f166) aj2 km x K=abt x.1 x.2.1 K:=by kernel_rfl
theorem awa:okC Try.f166.ntmps (aw [(4,8),(5,8)]) (aj Try.f166)=true:=by kernel_rfl
theorem ax6 (a:List Int) (b:List Int) (hok:ae (okL km.args (a,b,()))) (hpre:ae (km.pre (a,b,()))):abt a b (fun r=>r=km.res (a,b,())):=by
 simp only [km,okL,T.oks,T.ok,ap,ae,true_and,and_true,implies_true]at hok hpre
 try dsimp only [T.den]at hok
 try dsimp only [T.den]at hpre
 unfold abt
 have h1:a.length<=140737488355328:=by simp only [fy]at hok;omega
 clear hok hpre
 refine ca (fun (s:brl)=>0<=s.1.1/\s.1.1<=a.length/\s.1.1<=b.length/\xf a b=xf (a.drop s.1.1.toNat) (b.drop s.1.1.toNat)) (fun (s:brl)=>(a.length - s.1.1).toNat) ?_ ⟨by simp,by simp,by simp,by simp⟩
 rintro ⟨⟨i,_⟩,_⟩ next ⟨h0,h2,h3,h4⟩ hn _
 try dsimp only at h0 h2 h3 h4 hn ⊢
 refine be (fun hc=>?_) (fun hc=>?_)
 ·simp only [Bool.and_eq_true,decide_eq_true_eq]at hc
  rw [aay a 0 h0 hc.1,aay b 0 h0 hc.2,xf]at h4
  refine ⟨h0,hc.1,h0,hc.2,be (fun hd=>⟨h0,hc.1,h0,hc.2,?_⟩) (fun hd=>⟨by rw [au];(try dsimp only);omega,?_⟩)⟩
  ·rw [if_neg (by simpa using hd)]at h4
   simp only [km,h4]
  ·rw [if_pos (by simpa using hd)]at h4
   exact hn _ ⟨by dsimp only;omega,by dsimp only;omega,by dsimp only;omega,h4⟩ (by dsimp only;omega)
 ·simp only [Bool.and_eq_false_iff,decide_eq_false_iff_not]at hc
  simp only [km,h4]
  by_cases hb:i < b.length
  ·have ha:¬ i < a.length:=by rcases hc with h | h <;> omega
   rw [acf a (by omega),aay b 0 h0 hb,xf,decide_eq_true (by omega:(a.length:Int) < b.length)]
  ·rw [acf b (by omega),decide_eq_false (by omega:¬ (a.length:Int) < b.length)]
   cases a.drop i.toNat <;> rfl
theorem auj:dg Try.prog 166 km:=
 d7 (Φ:=lkp []) ba bo (by kernel_rfl) (fn:=Try.f166) (c:=aj Try.f166) (by kernel_rfl) (by kernel_rfl) (by kernel_rfl) km rfl aj2 (aw [(4,8),(5,8)]) (by kernel_rfl) (by kernel_rfl) awa (by decide) (fun x K=>abt x.1 x.2.1 K) axk (fun x h1 h2=>ax6 x.1 x.2.1 h1 h2)
def ae2 (a b:Int×Int×List Int):Bool:=if a.1=b.1 then (if a.2.1=b.2.1 then xf a.2.2 b.2.2 else decide (a.2.1 < b.2.1))else decide (a.1 < b.1)
def ky:Ct:=⟨[ahl,ahl],[true,true],fun x=>[],[(false,(.fz .bool))],fun x=>(ae2 x.1 x.2.1,()),false,none⟩
def yp (a:aqv) (b:aqv) (K:Bool×Unit->Prop):Prop:=(cnd (a.1 != b.1) (K ((decide (a.1 < b.1)),())) (cnd (a.2.1 != b.2.1) (K ((decide (a.2.1 < b.2.1)),())) (K ((xf a.2.2 b.2.2),()))))
theorem arv (x:bi ky.args) (K:Bool×Unit->Prop):evF tab (lkp [(166,km)]) (aw []) Try.f144 (aj Try.f144) .n ky x K=yp x.1 x.2.1 K:=by kernel_rfl
theorem ath:okC Try.f144.ntmps (aw []) (aj Try.f144)=true:=by kernel_rfl
theorem atc (a:aqv) (b:aqv) (hok:ae (okL ky.args (a,b,()))) (hpre:ae (ky.pre (a,b,()))):yp a b (fun r=>r=ky.res (a,b,())):=by
 simp only [ky,okL,T.oks,T.ok,ap,ae,true_and,and_true,implies_true]at hok hpre
 try dsimp only [T.den]at hok
 try dsimp only [T.den]at hpre
 unfold yp
 simp only [ky,ae2]
 refine be (fun h=>?_) (fun h=>?_)
 ·rw [bne_iff_ne]at h;rw [if_neg h]
 ·have h1:a.1=b.1:=by simpa using h
  rw [if_pos h1]
  refine be (fun h=>?_) (fun h=>?_)
  ·rw [bne_iff_ne]at h;rw [if_neg h]
  ·have h2:a.2.1=b.2.1:=by simpa using h
   rw [if_pos h2]
theorem aq9:dg Try.prog 144 ky:=
 d7 (Φ:=lkp [(166,km)]) (am auj ba) bo (by kernel_rfl) (fn:=Try.f144) (c:=aj Try.f144) (by kernel_rfl) (by kernel_rfl) (by kernel_rfl) ky rfl .n (aw []) (by kernel_rfl) (by kernel_rfl) ath (by decide) (fun x K=>yp x.1 x.2.1 K) arv (fun x h1 h2=>atc x.1 x.2.1 h1 h2)
def pf (fr to:List Int) (p:Int×Int×List Int) (n:Nat):List brn:=((ce n fun e=>e).filter fun e=>fr.getD e.toNat 0 == p.2.1).map fun e=>(p.1,to.getD e.toNat 0,p.2.2++[e])
def tg (fr to:List Int) (p:Int×Int×List Int):List brn:=pf fr to p fr.length
def mj (fr to:List Int):Nat->Nat->List brn->List brn
 | 0,_,l=>l
 | u+1,k,l=>if k < l.length/\l.length<=40 then mj fr to u (k+1) (l++tg fr to (l.getD k (0,0,[])))else l
def pn (n:Int):List brn:=ce n.toNat fun x=>(x,x,[])
def yx (x:Int×Int×List Int):List brn->List brn
 | []=>[x]
 | y::r=>if ae2 x y then y::yx x r else x::y::r
def ai8 (l:List brn):List brn:=l.foldl (fun a x=>yx x a) []
def yo (l:List brn):List brn:=(ai8 l).reverse
def ig (n:Int) (fr to:List Int):List brn:=yo (mj fr to 42 0 (pn n))
theorem bhu {fr to:List Int} {p:Int×Int×List Int} {e:Int} (h:0<=e):pf fr to p (e+1).toNat=pf fr to p e.toNat++(if (fr.getD e.toNat 0 == p.2.1)=true then [(p.1,to.getD e.toNat 0,p.2.2++[e])]else []):=by
 unfold pf
 rw [yc h,List.filter_append,List.map_append]
 split <;> rename_i h1 <;> simp only [List.filter_cons,h1,if_true,if_false,List.filter_nil,List.map_cons,List.map_nil,Bool.false_eq_true]
theorem bf2 {fr to:List Int} {p:Int×Int×List Int} {n:Nat}:(pf fr to p n).length<=n:=by
 unfold pf;rw [List.length_map];exact Nat.le_trans (List.length_filter_le _ _) (Nat.le_of_eq (c6 n))
theorem ayi {fr to:List Int} {p q:Int×Int×List Int} {n:Nat} (h:q ∈ pf fr to p n):q.2.2.length=p.2.2.length+1:=by
 unfold pf at h;obtain ⟨e,_,rfl⟩:=List.mem_map.1 h;simp only [List.length_append,List.length_cons,List.length_nil]
theorem bbm {fr to:List Int} {u k:Nat} {l:List brn} (h:¬ (k < l.length/\l.length<=40)):mj fr to u k l=l:=by
 cases u <;> simp only [mj,if_neg h]
theorem ade {α:Type} {l m:List α} {d:α} {k:Nat} (h:k < l.length):(l++m).getD k d=l.getD k d:=by
 rw [List.getD_eq_getElem?_getD,List.getD_eq_getElem?_getD,List.getElem?_append_left h]
theorem bf3 {x:Int×Int×List Int}:∀ l:List brn,(yx x l).length=l.length+1
 | []=>rfl
 | y::r=>by unfold yx;split <;> simp only [List.length_cons,bf3 r]
theorem bp3 {l:List brn} {i:Int} (h0:0<=i) (h1:i < l.length):ai8 (l.take (i+1).toNat)=yx (l.getD i.toNat (0,(0,[]))) (ai8 (l.take i.toNat)):=by
 unfold ai8;rw [af3 l (0,(0,[])) h0 h1,List.foldl_append];rfl
theorem bb9:∀ (l a:List brn),(l.foldl (fun a x=>yx x a) a).length=a.length+l.length
 | [],a=>rfl
 | x::l,a=>by rw [List.foldl_cons,bb9 l,bf3,List.length_cons];omega
theorem bbo (l:List brn):(ai8 l).length=l.length:=by unfold ai8;rw [bb9];exact Nat.zero_add _
def aki (l:List brn) (i:Int):List brn:=(ai8 (l.take i.toNat)).reverse++l.drop i.toNat
theorem bo0 (l:List brn) (i:Int):(aki l i).length=l.length:=by
 unfold aki;rw [List.length_append,List.length_reverse,bbo,List.length_take,List.length_drop];omega
theorem bqo (l:List brn):aki l 1=l:=by
 cases l <;> rfl
theorem bq6 {l:List brn} {i:Int} (h:(l.length:Int)<=i):aki l i=yo l:=by
 unfold aki yo;rw [ak5 l h,List.drop_eq_nil_of_le (by omega),List.append_nil]
theorem av7 {α:Type} {d x:α} {t:List α}:∀ p:List α,(p++x::t).getD p.length d=x
 | []=>rfl
 | _::p=>by simp
theorem bmg {α:Type} {d x y:α} {t:List α}:∀ p:List α,(p++y::x::t).getD (p.length+1) d=x
 | []=>rfl
 | _::p=>by simp
theorem bmc {α:Type} {x y:α} {t:List α}:∀ p:List α,((p++y::x::t).set (p.length+1) y).set p.length x=p++x::y::t
 | []=>rfl
 | a::p=>by simp
def na:Ct:=⟨[(.int .i64),(.sl (.int .i64)),(.sl (.int .i64))],[false,false,false],fun x=>[0<=x.1,x.1<=8,x.2.2.1.length=x.2.1.length,x.2.1.length<=1000000000],[(false,(.fz (.sl (.p (.int .i64) (.p (.int .i64) (.sl (.int .i64)))))))],fun x=>(ig x.1 x.2.1 x.2.2.1,()),true,none⟩
def alj:Ann:=(.s .n (.j [(7,(.ref 800007 []))] [(800007,(.sl (.fz (.p (.int .i64) (.p (.int .i64) (.sl (.int .i64)))))))] [0,1,2] (.s .n (.s (.s .n (.l [(7,(.ref 800007 [])),(8,(.d (.int .i64)))] [(800007,(.sl (.fz (.p (.int .i64) (.p (.int .i64) (.sl (.int .i64)))))))] [0,1,2] .n)) (.s (.s .n (.l [(7,(.ref 800007 [])),(9,(.d (.int .i64)))] [(800007,(.sl (.fz (.p (.int .i64) (.p (.int .i64) (.sl (.int .i64)))))))] [1,2] (.s .n (.s (.s .n (.l [(7,(.ref 800007 [])),(10,(.d (.int .i64)))] [(800007,(.sl (.fz (.p (.int .i64) (.p (.int .i64) (.sl (.int .i64)))))))] [1,2,9] (.s .n (.s (.s .n (.j [(7,(.ref 800007 []))] [(800007,(.sl (.fz (.p (.int .i64) (.p (.int .i64) (.sl (.int .i64)))))))] [1,2,9,10] .n)) .n)))) .n)))) (.s (.s .n (.l [(7,(.ref 800007 [])),(11,(.d (.int .i64)))] [(800007,(.sl (.fz (.p (.int .i64) (.p (.int .i64) (.sl (.int .i64)))))))] [] (.s .n (.s (.s .n (.l [(7,(.ref 800007 [])),(12,(.d (.int .i64)))] [(800007,(.sl (.fz (.p (.int .i64) (.p (.int .i64) (.sl (.int .i64)))))))] [11] .n)) .n)))) .n))))))
def amb:FuncId->Option Ct:=lkp [(59,jr),(144,ky)]
def acy (n:Int) (from_:List Int) (to:List Int) (K:(List aqv)×Unit->Prop):Prop:=(fk (S:=((Unit×Unit)×brk)) (fun s=>((T.ok (.sl ahl) s.2.1)->(bu (S:=(brh×brk)) (fun s1=>(fun next=>((inK .i64 s1.1.2.1)->((T.ok (.sl ahl) s1.2.1)->(cnd (decide (s1.1.2.1 < n)) ((fg s1.2.1.length (List.length ((s1.1.2.1,(s1.1.2.1,[]))::([]:List br2))) 40)/\((inK .i64 (s1.1.2.1+1))/\(next (((),((s1.1.2.1+1),())),((s1.2.1++((s1.1.2.1,(s1.1.2.1,[]))::([]:List br2))),()))))) (bu (S:=(brh×brk)) (fun s2=>(fun next1=>((inK .i64 s2.1.2.1)->((T.ok (.sl ahl) s2.2.1)->(cnd ((decide (s2.1.2.1 < ((s2.2.1.length:Nat):Int))) && (decide (((s2.2.1.length:Nat):Int)<=40))) (bu (S:=(brh×brk)) (fun s3=>(fun next2=>((inK .i64 s3.1.2.1)->((T.ok (.sl ahl) s3.2.1)->(cnd (decide (s3.1.2.1 < ((from_.length:Nat):Int))) ((0<=s3.1.2.1)/\((s3.1.2.1 < ((from_.length:Nat):Int))/\((0<=s2.1.2.1)/\((s2.1.2.1 < ((s3.2.1.length:Nat):Int))/\(fk (S:=((Unit×Unit)×brk)) (fun s4=>((T.ok (.sl ahl) s4.2.1)->((inK .i64 (s3.1.2.1+1))/\(next2 (((),((s3.1.2.1+1),())),(s4.2.1,())))))) (fun k=>(cnd ((List.getD from_ s3.1.2.1.toNat 0) == (List.getD s3.2.1 s2.1.2.1.toNat (0,(0,[]))).2.1) ((0<=s2.1.2.1)/\((s2.1.2.1 < ((s3.2.1.length:Nat):Int))/\((0<=s3.1.2.1)/\((s3.1.2.1 < ((to.length:Nat):Int))/\((0<=s2.1.2.1)/\((s2.1.2.1 < ((s3.2.1.length:Nat):Int))/\(((List.length (List.getD s3.2.1 s2.1.2.1.toNat (0,(0,[]))).2.2)<=1099511627776)/\((fg (List.length (List.getD s3.2.1 s2.1.2.1.toNat (0,(0,[]))).2.2) (List.length (s3.1.2.1::[])) 8)/\((fg s3.2.1.length (List.length (((List.getD s3.2.1 s2.1.2.1.toNat (0,(0,[]))).1,((List.getD to s3.1.2.1.toNat 0),((List.getD s3.2.1 s2.1.2.1.toNat (0,(0,[]))).2.2++(s3.1.2.1::[]))))::([]:List br2))) 40)/\(k (((),()),((s3.2.1++(((List.getD s3.2.1 s2.1.2.1.toNat (0,(0,[]))).1,((List.getD to s3.1.2.1.toNat 0),((List.getD s3.2.1 s2.1.2.1.toNat (0,(0,[]))).2.2++(s3.1.2.1::[]))))::([]:List br2))),())))))))))))) (k (((),()),(s3.2.1,())))))))))) ((inK .i64 (s2.1.2.1+1))/\(next1 (((),((s2.1.2.1+1),())),(s3.2.1,()))))))))) (((),(0,())),(s2.2.1,()))) (bu (S:=(brh×brk)) (fun s3=>(fun next2=>((inK .i64 s3.1.2.1)->((T.ok (.sl ahl) s3.2.1)->(cnd (decide (s3.1.2.1 < ((s3.2.1.length:Nat):Int))) (bu (S:=(brh×brk)) (fun s4=>(fun next3=>((inK .i64 s4.1.2.1)->((T.ok (.sl ahl) s4.2.1)->((((decide (0 < s4.1.2.1))=true)->((s4.1.2.1 < ((s4.2.1.length:Nat):Int))/\(0<=s4.1.2.1)))/\((((decide (0 < s4.1.2.1))=true)->(inK .i64 (s4.1.2.1 - 1)))/\((((decide (0 < s4.1.2.1))=true)->(((s4.1.2.1 - 1) < ((s4.2.1.length:Nat):Int))/\(0<=(s4.1.2.1 - 1))))/\(cnd ((decide (0 < s4.1.2.1)) && (ae2 (List.getD s4.2.1 s4.1.2.1.toNat (0,(0,[]))) (List.getD s4.2.1 (Int.toNat (s4.1.2.1 - 1)) (0,(0,[]))))) ((0<=s4.1.2.1)/\((s4.1.2.1 < ((s4.2.1.length:Nat):Int))/\((inK .i64 (s4.1.2.1 - 1))/\((0<=(s4.1.2.1 - 1))/\(((s4.1.2.1 - 1) < ((s4.2.1.length:Nat):Int))/\((0<=s4.1.2.1)/\((s4.1.2.1 < ((s4.2.1.length:Nat):Int))/\((inK .i64 (s4.1.2.1 - 1))/\((0<=(s4.1.2.1 - 1))/\(((s4.1.2.1 - 1) < (((List.length (List.set s4.2.1 s4.1.2.1.toNat (List.getD s4.2.1 (Int.toNat (s4.1.2.1 - 1)) (0,(0,[]))))):Nat):Int))/\((inK .i64 (s4.1.2.1 - 1))/\(next3 (((),((s4.1.2.1 - 1),())),((List.set (List.set s4.2.1 s4.1.2.1.toNat (List.getD s4.2.1 (Int.toNat (s4.1.2.1 - 1)) (0,(0,[])))) (Int.toNat (s4.1.2.1 - 1)) (List.getD s4.2.1 s4.1.2.1.toNat (0,(0,[])))),())))))))))))))) ((inK .i64 (s3.1.2.1+1))/\(next2 (((),((s3.1.2.1+1),())),(s4.2.1,())))))))))))) (((),(s3.1.2.1,())),(s3.2.1,()))) (K (s3.2.1,()))))))) (((),(1,())),(s2.2.1,())))))))) (((),(0,())),(s1.2.1,())))))))) (((),(0,())),(s.2.1,()))))) (fun k=>(k (((),()),(([]:List br2),())))))
theorem bag (x:bi na.args) (K:(List aqv)×Unit->Prop):evF tab amb (aw [(18,12),(12,9),(13,8000085018)]) Try.f126 (aj Try.f126) alj na x K=acy x.1 x.2.1 x.2.2.1 K:=by kernel_rfl
theorem az3:okC Try.f126.ntmps (aw [(18,12),(12,9),(13,8000085018)]) (aj Try.f126)=true:=by kernel_rfl
theorem az4 (n:Int) (from_:List Int) (to:List Int) (hok:ae (okL na.args (n,from_,to,()))) (hpre:ae (na.pre (n,from_,to,()))):acy n from_ to (fun r=>r=na.res (n,from_,to,())):=by
 simp only [na,okL,T.oks,T.ok,ap,ae,true_and,and_true,implies_true]at hok hpre
 try dsimp only [T.den]at hok
 try dsimp only [T.den]at hpre
 unfold acy
 obtain ⟨n0,n8,ht,hf⟩:=hpre
 refine dn (fun (s:((Unit×Unit)×brk))=>s.2.1=[]) ?_ (fun k hk=>hk _ rfl)
 rintro ⟨_,l0,_⟩ e0
 intros
 try dsimp only at e0 ⊢
 subst e0
 refine ca (fun (s:(brh×brk))=>0<=s.1.2.1/\s.1.2.1<=n/\s.2.1=pn s.1.2.1) (fun (s:(brh×brk))=>(n - s.1.2.1).toNat) ?_ ⟨by simp,n0,rfl⟩
 rintro ⟨⟨_,x,_⟩,l,_⟩ next ⟨x0,x1,q⟩ hnx
 intros
 try dsimp only at x0 x1 q hnx ⊢
 subst q
 have zl:(pn x).length=x.toNat:=c6 _
 refine bf (fun hx=>?_) (fun hx=>?_)
 ·refine ⟨cw (by rw [zl];simp only [List.length_cons,List.length_nil];omega),by rw [au];(try dsimp only);omega,hnx _ ⟨by dsimp only;omega,by dsimp only;omega,?_⟩ (by dsimp only;omega)⟩
  try dsimp only
  unfold pn
  rw [yc x0]
 have ex:x=n:=by omega
 subst ex
 clear hnx
 have hz0:∀ p ∈ pn x,(p.2.2.length:Int)<=0:=by
  intro p hp
  unfold pn at hp
  have hz:∀ (k:Nat),p ∈ ce k (fun x=>((x,x,[]):Int×Int×List Int))->p.2.2=[]:=by
   intro k
   induction k with
   | zero=>intro h;cases h
   | succ k ih=>
    intro h
    rcases List.mem_append.1 h with h | h
    ·exact ih h
    ·rw [List.mem_singleton.1 h]
  rw [hz _ hp];simp
 refine ca (fun (s:(brh×brk))=>0<=s.1.2.1/\s.1.2.1<=41/\mj from_ to 42 0 (pn x)=mj from_ to (42 - s.1.2.1).toNat s.1.2.1.toNat s.2.1/\(∀ p ∈ s.2.1,(p.2.2.length:Int)<=s.1.2.1)/\s.2.1.length<=40+from_.length) (fun (s:(brh×brk))=>(41 - s.1.2.1).toNat) ?_ ⟨by simp,by simp,rfl,hz0,by dsimp only;omega⟩
 rintro ⟨⟨_,k,_⟩,L,_⟩ next ⟨k0,k41,hg,hp,hL⟩ hnx
 intros
 try dsimp only at k0 k41 hg hp hL hnx ⊢
 refine be (fun hc=>?_) (fun hc=>?_)
 ·simp only [Bool.and_eq_true,decide_eq_true_eq]at hc
  obtain ⟨hc1,hc2⟩:=hc
  have hpk:=hp _ (gf L (0,(0,[])) k0 hc1)
  have hgk:mj from_ to 42 0 (pn x)=mj from_ to (42 - (k+1)).toNat (k+1).toNat (L++tg from_ to (L.getD k.toNat (0,0,[]))):=by
   rw [hg,show (42 - k).toNat=(42 - (k+1)).toNat+1 from by omega,show (k+1).toNat=k.toNat+1 from by omega]
   simp only [mj]
   rw [if_pos ⟨by omega,by omega⟩]
  generalize hP:L.getD k.toNat (0,(0,[]))=P at *
  refine ca (fun (s:(brh×brk))=>0<=s.1.2.1/\s.1.2.1<=from_.length/\s.2.1=L++pf from_ to P s.1.2.1.toNat) (fun (s:(brh×brk))=>(from_.length - s.1.2.1).toNat) ?_ ⟨by simp,by simp,by simp [pf,ce]⟩
  rintro ⟨⟨_,e,_⟩,M,_⟩ next1 ⟨e0,e1,q⟩ hn1
  intros
  try dsimp only at e0 e1 q hn1 ⊢
  subst q
  have hM:(L++pf from_ to P e.toNat).length<=40+from_.length:=by rw [List.length_append];have:=@bf2 from_ to P e.toNat;omega
  have hMk:k < (L++pf from_ to P e.toNat).length:=by rw [List.length_append];omega
  have hG:(L++pf from_ to P e.toNat).getD k.toNat (0,(0,[]))=P:=by rw [ade (by omega),hP]
  have hE:=@bhu from_ to P e e0
  rw [hG]
  refine bf (fun he=>?_) (fun he=>?_)
  ·refine ⟨e0,by omega,k0,hMk,dn (fun (q:((Unit×Unit)×brk))=>q.2.1=L++pf from_ to P (e+1).toNat) ?_ ?_⟩
   ·rintro ⟨_,M2,_⟩ q2
    intros
    try dsimp only at q2 ⊢
    subst q2
    exact ⟨by rw [au];(try dsimp only);omega,hn1 _ ⟨by dsimp only;omega,by dsimp only;omega,rfl⟩ (by dsimp only;omega)⟩
   ·intro k1 hk1
    rw [hE]at hk1
    refine be (fun hb=>?_) (fun hb=>?_)
    ·rw [if_pos hb]at hk1
     exact ⟨k0,hMk,e0,by omega,k0,hMk,by omega,cw (by simp only [List.length_cons,List.length_nil];omega),cw (by simp only [List.length_cons,List.length_nil];omega),hk1 _ (List.append_assoc _ _ _)⟩
    ·rw [if_neg (by rw [hb];decide),List.append_nil]at hk1
     exact hk1 _ rfl
  ·have ee:e=from_.length:=by omega
   subst ee
   refine ⟨by rw [au];(try dsimp only);omega,hnx _ ⟨by dsimp only;omega,by dsimp only;omega,hgk,?_,hM⟩ (by dsimp only;omega)⟩
   intro p hp'
   try dsimp only at hp' ⊢
   rcases List.mem_append.1 hp' with h | h
   ·have:=hp p h;omega
   ·have:=ayi h;omega
 ·simp only [Bool.and_eq_false_iff,decide_eq_false_iff_not]at hc
  replace hg:=hg.trans (bbm (by omega))
  clear hnx
  have hres:ig x from_ to=yo L:=by unfold ig;rw [hg]
  simp only [na]
  rw [hres]
  refine ca (fun (s:(brh×brk))=>1<=s.1.2.1/\s.2.1=aki L s.1.2.1) (fun (s:(brh×brk))=>(L.length - s.1.2.1).toNat) ?_ ⟨by simp,(bqo L).symm⟩
  rintro ⟨⟨_,i,_⟩,A,_⟩ next1 ⟨i0,q⟩ hn1
  intros
  try dsimp only at i0 q hn1 ⊢
  subst q
  rw [bo0]
  refine bf (fun hi=>?_) (fun hi=>?_)
  ·have hs:=bp3 (l:=L) (i:=i) (by omega) hi
   have hd:L.drop i.toNat=L.getD i.toNat (0,(0,[]))::L.drop (i+1).toNat:=by
    rw [show (i+1).toNat=i.toNat+1 from by omega,List.getD_eq_getElem?_getD,List.getElem?_eq_getElem (by omega)]
    exact List.drop_eq_getElem_cons (by omega)
   have ha:aki L (i+1)=(yx (L.getD i.toNat (0,(0,[]))) (ai8 (L.take i.toNat))).reverse++L.drop (i+1).toNat:=by unfold aki;rw [hs]
   have hl:(ai8 (L.take i.toNat)).length=i.toNat:=by rw [bbo,List.length_take];omega
   have hA:aki L i=(ai8 (L.take i.toNat)).reverse++L.getD i.toNat (0,(0,[]))::L.drop (i+1).toNat:=by unfold aki;rw [hd]
   rw [hA]
   generalize L.getD i.toNat (0,(0,[]))=X at *
   generalize ai8 (L.take i.toNat)=R at *
   generalize L.drop (i+1).toNat=Q at *
   refine ca (fun (s:(brh×brk))=>∃ R1 R2,R=R1++R2/\(R2.length:Int)=s.1.2.1/\yx X R=R1++yx X R2/\s.2.1=R2.reverse++X::(R1.reverse++Q)) (fun (s:(brh×brk))=>s.1.2.1.toNat) ?_ ⟨[],R,rfl,by dsimp only;omega,rfl,rfl⟩
   rintro ⟨⟨_,k,_⟩,B,_⟩ next2 ⟨R1,R2,r1,r2,r3,r4⟩ hn2
   intros
   try dsimp only at r1 r2 r3 r4 hn2 ⊢
   subst r4
   cases R2 with
   | nil=>
    have ek:k=0:=by simpa using r2.symm
    subst ek
    refine ⟨fun h=>by simp at h,fun h=>by simp at h,fun h=>by simp at h,be (fun h=>by simp at h) (fun _=>⟨by rw [au];(try dsimp only);omega,hn1 _ ⟨by dsimp only;omega,?_⟩ (by dsimp only;omega)⟩)⟩
    try dsimp only
    rw [ha,r3]
    simp [yx]
   | cons Y R2=>
    simp only [List.length_cons]at r2
    have hr:R1.length+(R2.length+1)=i.toNat:=by rw [← hl,r1];simp
    have e1:(Y::R2).reverse++X::(R1.reverse++Q)=R2.reverse++Y::X::(R1.reverse++Q):=by simp
    rw [e1]
    have hk:k.toNat=R2.reverse.length+1:=by rw [List.length_reverse];omega
    have hk1:(k - 1).toNat=R2.reverse.length:=by rw [List.length_reverse];omega
    rw [hk,hk1,av7,bmg,bmc]
    have hlen:((R2.reverse++Y::X::(R1.reverse++Q)).length:Int)=R2.length+2+R1.length+Q.length:=by simp;omega
    have hlen2:(((R2.reverse++Y::X::(R1.reverse++Q)).set (R2.reverse.length+1) Y).length:Int)=R2.length+2+R1.length+Q.length:=by rw [List.length_set];exact hlen
    have hk63:inK .i64 (k - 1):=by rw [au];(try dsimp only);omega
    refine ⟨fun _=>⟨by omega,by omega⟩,fun _=>hk63,fun _=>⟨by omega,by omega⟩,be (fun h=>?_) (fun h=>?_)⟩
    ·simp only [Bool.and_eq_true,decide_eq_true_eq]at h
     refine ⟨by omega,by omega,hk63,by omega,by omega,by omega,by omega,hk63,by omega,by omega,hk63,hn2 _ ⟨R1++[Y],R2,by simp [r1],by dsimp only;omega,?_,?_⟩ (by dsimp only;omega)⟩
     ·rw [r3];simp [yx,h.2]
     ·simp
    ·have hb:ae2 X Y=false:=by
      rcases Bool.and_eq_false_iff.1 h with h | h
      ·simp only [decide_eq_false_iff_not]at h;omega
      ·exact h
     refine ⟨by rw [au];(try dsimp only);omega,hn1 _ ⟨by dsimp only;omega,?_⟩ (by dsimp only;omega)⟩
     try dsimp only
     rw [ha,r3]
     simp [yx,hb]
  ·rw [bq6 (by omega)]
theorem awp:dg Try.prog 126 na:=
 d7 (Φ:=amb) (am xh (am aq9 ba)) bo (by kernel_rfl) (fn:=Try.f126) (c:=aj Try.f126) (by kernel_rfl) (by kernel_rfl) (by kernel_rfl) na rfl alj (aw [(18,12),(12,9),(13,8000085018)]) (by kernel_rfl) (by kernel_rfl) az3 (by decide) (fun x K=>acy x.1 x.2.1 x.2.2.1 K) bag (fun x h1 h2=>az4 x.1 x.2.1 x.2.2.1 h1 h2)
abbrev PtT:=Int×Int×List Int
def pAt (l:List PtT) (i:Int):PtT:=l.getD i.toNat (0,(0,[]))
def ajk (n:Nat) (p:Int->Bool):Int:=(ce n fun k=>k).foldl (fun h k=>if p k then k else h) (-1)
def ad2 (l:List PtT) (i j k:Int):Bool:=(pAt l k).1 == (pAt l i).1 && eqR (.sl (.int .i64)) (pAt l k).2.2 ((pAt l i).2.2++(pAt l j).2.2)
def vh (l:List PtT) (i j:Int):Int:=if (pAt l i).2.1=(pAt l j).1 then ajk l.length (ad2 l i j)else -1
def aau (l:List PtT) (n:Int) (i:Nat):List Int:=(ce i fun k=>k).foldl (fun a k=>if (pAt l k).2.2.length=0 then a.set (pAt l k).1.toNat k else a) (List.replicate n.toNat 0)
def qf (n:Int) (l:List PtT) (t:List (List Int)):ac:=(n,(l.map (·.1),(l.map (·.2.1),(aau l n l.length,t))))
def bcp (n:Int) (l:List PtT):ac:=qf n l (if l.length<=40 then ce l.length (fun i=>ce l.length (vh l i))else [])
def nq (n:Int) (fr to:List Int):ac:=bcp n (ig n fr to)
theorem ar4 {x:PtT}:∀ l:List PtT,(yx x l).Perm (x::l)
 | []=>List.Perm.refl _
 | y::r=>by
  unfold yx
  split
  ·exact ((ar4 r).cons y).trans (List.Perm.swap x y r)
  ·exact List.Perm.refl _
theorem azq:∀ (l a:List PtT),(l.foldl (fun a x=>yx x a) a).Perm (a++l)
 | [],a=>by rw [List.foldl_nil,List.append_nil]
 | x::l,a=>by
  rw [List.foldl_cons]
  refine (azq l _).trans (((ar4 a).append_right l).trans ?_)
  rw [List.cons_append]
  exact List.perm_middle.symm
theorem aef (l:List PtT):(yo l).Perm l:=(List.reverse_perm _).trans (azq l [])
theorem aob {fr to:List Int} (Q:PtT->Prop) (hQ:∀ p e,Q p->0<=e->e < (fr.length:Int)->fr.getD e.toNat 0=p.2.1->Q (p.1,to.getD e.toNat 0,p.2.2++[e])):∀ (u k:Nat) (l:List PtT),(∀ p ∈ l,Q p)->∀ p ∈ mj fr to u k l,Q p
 | 0,_,_,h=>h
 | u+1,k,l,h=>by
  unfold mj
  split
  ·rename_i hc
   refine aob Q hQ u (k+1) _ fun p hp=>?_
   rcases List.mem_append.1 hp with hp | hp
   ·exact h p hp
   ·unfold tg pf at hp
    obtain ⟨e,he,rfl⟩:=List.mem_map.1 hp
    obtain ⟨he,hf⟩:=List.mem_filter.1 he
    obtain ⟨e2,e0,e1,rfl⟩:=n7.1 he
    have hk:l.getD k (0,(0,[])) ∈ l:=by have:=gf l (0,(0,[])) (i:=k) (by omega) (by omega);simpa using this
    exact hQ _ _ (h _ hk) e0 e1 (by simpa using hf)
  ·exact h
theorem atj {fr to:List Int}:∀ (u k:Nat) (l:List PtT),(∀ p ∈ l,p.2.2.length<=k)->∀ p ∈ mj fr to u k l,p.2.2.length<=k+u
 | 0,_,_,h=>h
 | u+1,k,l,h=>by
  unfold mj
  split
  ·rename_i hc
   have:=atj (fr:=fr) (to:=to) u (k+1) (l++tg fr to (l.getD k (0,0,[]))) fun p hp=>?_
   ·intro p hp;have:=this p hp;omega
   ·rcases List.mem_append.1 hp with hp | hp
    ·have:=h p hp;omega
    ·have hk:l.getD k (0,(0,[])) ∈ l:=by have:=gf l (0,(0,[])) (i:=k) (by omega) (by omega);simpa using this
     have h1:=h _ hk
     have h2:=ayi hp
     omega
  ·intro p hp;have:=h p hp;omega
theorem bd2 {fr to:List Int}:∀ (u k:Nat) (l:List PtT),l.length<=40+fr.length->(mj fr to u k l).length<=40+fr.length
 | 0,_,_,h=>h
 | u+1,k,l,h=>by
  unfold mj
  split
  ·rename_i hc
   refine bd2 u (k+1) _ ?_
   rw [List.length_append]
   have:=@bf2 fr to (l.getD k (0,0,[])) fr.length
   unfold tg
   omega
  ·exact h
theorem ac3 {n:Int} {p:PtT} (h:p ∈ pn n):0<=p.1/\p.1 < n/\p.2.1=p.1/\p.2.2=[]:=by
 unfold pn at h
 obtain ⟨e,h0,h1,rfl⟩:=n7.1 h
 exact ⟨h0,by dsimp only;omega,rfl,rfl⟩
theorem bog {n:Int} {fr to:List Int} {p:PtT} (h:p ∈ ig n fr to):(0<=p.1/\p.1 < n)/\p.2.2.length<=42:=by
 have h1:=(aef _).mem_iff.1 h
 refine ⟨aob (fun p=>0<=p.1/\p.1 < n) (fun p e hp _ _ _=>hp) 42 0 _ (fun p hp=>?_) p h1,?_⟩
 ·have:=ac3 hp;exact ⟨this.1,this.2.1⟩
 ·have:=atj 42 0 _ (fun p hp=>by rw [(ac3 hp).2.2.2];simp) p h1
  omega
theorem bnx {n:Int} {fr to:List Int} (h:n<=8):(ig n fr to).length<=40+fr.length:=by
 unfold ig
 rw [(aef _).length_eq]
 refine bd2 42 0 _ ?_
 unfold pn;rw [c6];omega
theorem bdu {l:List PtT} {n i:Int} (h:0<=i):aau l n (i+1).toNat=if (pAt l i).2.2.length=0 then (aau l n i.toNat).set (pAt l i).1.toNat i else aau l n i.toNat:=by
 unfold aau;rw [yc h,List.foldl_append];rfl
theorem ai4 {l:List PtT} {n:Int}:∀ i:Nat,(aau l n i).length=n.toNat
 | 0=>by simp [aau,ce]
 | i+1=>by
  have:=@bdu l n i (by omega)
  rw [show ((i:Int)+1).toNat=i+1 from rfl,Int.toNat_natCast]at this
  rw [this]
  split
  ·rw [List.length_set,ai4 i]
  ·exact ai4 i
theorem bj6 {p:Int->Bool} {i:Int} (h:0<=i):ajk (i+1).toNat p=if p i then i else ajk i.toNat p:=by
 unfold ajk;rw [yc h,List.foldl_append];rfl
def kx:Ct:=⟨[(.int .i64),(.sl (.int .i64)),(.sl (.int .i64))],[false,false,false],fun x=>[0<=x.1,x.1<=8,x.2.2.1.length=x.2.1.length,x.2.1.length<=1000000000],[(true,ku)],fun x=>(nq x.1 x.2.1 x.2.2.1,()),false,none⟩
def aig:Ann:=(.s .n (.s .n (.s .n (.s (.s .n (.l [(6,(.ad 6 [.de])),(8,(.ad 8 [.de])),(9,(.d (.int .i64)))] [(6,(.pt (.p (.fz (.int .i64)) (.p (.sl (.fz (.int .i64))) (.p (.sl (.fz (.int .i64))) (.p (.sl (.fz (.int .i64))) (.sl (.sl (.fz (.int .i64)))))))))),(8,(.pt (.p (.fz (.int .i64)) (.p (.sl (.fz (.int .i64))) (.p (.sl (.fz (.int .i64))) (.p (.sl (.fz (.int .i64))) (.sl (.sl (.fz (.int .i64))))))))))] [7] (.s .n (.s (.s .n (.s .n (.s .n (.j [(6,(.ad 6 [.de])),(8,(.ad 8 [.de]))] [(6,(.pt (.p (.fz (.int .i64)) (.p (.sl (.fz (.int .i64))) (.p (.sl (.fz (.int .i64))) (.p (.sl (.fz (.int .i64))) (.sl (.sl (.fz (.int .i64)))))))))),(8,(.pt (.p (.fz (.int .i64)) (.p (.sl (.fz (.int .i64))) (.p (.sl (.fz (.int .i64))) (.p (.sl (.fz (.int .i64))) (.sl (.sl (.fz (.int .i64))))))))))] [7,9] .n)))) .n)))) (.s .n (.s (.s .n (.l [(6,(.ad 6 [.de])),(8,(.ad 8 [.de])),(10,(.d (.int .i64)))] [(6,(.pt (.p (.fz (.int .i64)) (.p (.sl (.fz (.int .i64))) (.p (.sl (.fz (.int .i64))) (.p (.sl (.fz (.int .i64))) (.sl (.sl (.fz (.int .i64)))))))))),(8,(.pt (.p (.fz (.int .i64)) (.p (.sl (.fz (.int .i64))) (.p (.sl (.fz (.int .i64))) (.p (.sl (.fz (.int .i64))) (.sl (.sl (.fz (.int .i64))))))))))] [7] (.s .n (.s (.s .n (.s (.s .n (.l [(6,(.ad 6 [.de])),(8,(.ad 8 [.de])),(11,(.ref 800011 [])),(12,(.d (.int .i64)))] [(6,(.pt (.p (.fz (.int .i64)) (.p (.sl (.fz (.int .i64))) (.p (.sl (.fz (.int .i64))) (.p (.sl (.fz (.int .i64))) (.sl (.sl (.fz (.int .i64)))))))))),(8,(.pt (.p (.fz (.int .i64)) (.p (.sl (.fz (.int .i64))) (.p (.sl (.fz (.int .i64))) (.p (.sl (.fz (.int .i64))) (.sl (.sl (.fz (.int .i64)))))))))),(800011,(.sl (.fz (.int .i64))))] [7,10] (.s .n (.s (.s .n (.s (.s .n (.j [(6,(.ad 6 [.de])),(8,(.ad 8 [.de])),(11,(.ref 800011 [])),(13,(.d (.int .i64)))] [(6,(.pt (.p (.fz (.int .i64)) (.p (.sl (.fz (.int .i64))) (.p (.sl (.fz (.int .i64))) (.p (.sl (.fz (.int .i64))) (.sl (.sl (.fz (.int .i64)))))))))),(8,(.pt (.p (.fz (.int .i64)) (.p (.sl (.fz (.int .i64))) (.p (.sl (.fz (.int .i64))) (.p (.sl (.fz (.int .i64))) (.sl (.sl (.fz (.int .i64)))))))))),(800011,(.sl (.fz (.int .i64))))] [7,10,12] (.s (.s .n (.s .n (.l [(6,(.ad 6 [.de])),(8,(.ad 8 [.de])),(11,(.ref 800011 [])),(13,(.d (.int .i64))),(15,(.d (.int .i64)))] [(6,(.pt (.p (.fz (.int .i64)) (.p (.sl (.fz (.int .i64))) (.p (.sl (.fz (.int .i64))) (.p (.sl (.fz (.int .i64))) (.sl (.sl (.fz (.int .i64)))))))))),(8,(.pt (.p (.fz (.int .i64)) (.p (.sl (.fz (.int .i64))) (.p (.sl (.fz (.int .i64))) (.p (.sl (.fz (.int .i64))) (.sl (.sl (.fz (.int .i64)))))))))),(800011,(.sl (.fz (.int .i64))))] [7,10,12,14] (.s .n (.s (.s .n (.j [(6,(.ad 6 [.de])),(8,(.ad 8 [.de])),(11,(.ref 800011 [])),(13,(.d (.int .i64)))] [(6,(.pt (.p (.fz (.int .i64)) (.p (.sl (.fz (.int .i64))) (.p (.sl (.fz (.int .i64))) (.p (.sl (.fz (.int .i64))) (.sl (.sl (.fz (.int .i64)))))))))),(8,(.pt (.p (.fz (.int .i64)) (.p (.sl (.fz (.int .i64))) (.p (.sl (.fz (.int .i64))) (.p (.sl (.fz (.int .i64))) (.sl (.sl (.fz (.int .i64)))))))))),(800011,(.sl (.fz (.int .i64))))] [7,10,12,14,15] .n)) .n))))) .n))) .n)) .n)))) .n)) .n)))) .n))))))
def aie:FuncId->Option Ct:=lkp [(59,jr),(62,ko),(107,kr),(126,na)]
def aaf (n:Int) (from_:List Int) (to:List Int) (K:ac×Unit->Prop):Prop:=((0<=n)/\((n<=8)/\((to.length=from_.length)/\((from_.length<=1000000000)/\((0<=n)/\((n<=n)/\((n<=((140737488355328:Nat):Int))/\(((n * ((8:Nat):Int))<=((140737488355328:Nat):Int))/\(bu (S:=(brc×brf)) (fun s=>(fun next=>((inK .i64 s.1.2.2.1)->((inK .i64 s.2.1.1)->((T.ok (.sl (.int .i64)) s.2.1.2.1)->((T.ok (.sl (.int .i64)) s.2.1.2.2.1)->((T.ok (.sl (.int .i64)) s.2.1.2.2.2.1)->((T.ok (.sl (.sl (.int .i64))) s.2.1.2.2.2.2)->((inK .i64 s.2.2.1.1)->((T.ok (.sl (.int .i64)) s.2.2.1.2.1)->((T.ok (.sl (.int .i64)) s.2.2.1.2.2.1)->((T.ok (.sl (.int .i64)) s.2.2.1.2.2.2.1)->((T.ok (.sl (.sl (.int .i64))) s.2.2.1.2.2.2.2)->(cnd (decide (s.1.2.2.1 < (((List.length (ig n from_ to)):Nat):Int))) ((0<=s.1.2.2.1)/\((s.1.2.2.1 < (((List.length (ig n from_ to)):Nat):Int))/\((fg s.2.2.1.2.1.length (List.length ((List.getD (ig n from_ to) s.1.2.2.1.toNat (0,(0,[]))).1::[])) 8)/\((0<=s.1.2.2.1)/\((s.1.2.2.1 < (((List.length (ig n from_ to)):Nat):Int))/\((fg s.2.2.1.2.2.1.length (List.length ((List.getD (ig n from_ to) s.1.2.2.1.toNat (0,(0,[]))).2.1::[])) 8)/\((0<=s.1.2.2.1)/\((s.1.2.2.1 < (((List.length (ig n from_ to)):Nat):Int))/\(fk (S:=(brp×brf)) (fun s1=>((inK .i64 s1.2.1.1)->((T.ok (.sl (.int .i64)) s1.2.1.2.1)->((T.ok (.sl (.int .i64)) s1.2.1.2.2.1)->((T.ok (.sl (.int .i64)) s1.2.1.2.2.2.1)->((T.ok (.sl (.sl (.int .i64))) s1.2.1.2.2.2.2)->((inK .i64 s1.2.2.1.1)->((T.ok (.sl (.int .i64)) s1.2.2.1.2.1)->((T.ok (.sl (.int .i64)) s1.2.2.1.2.2.1)->((T.ok (.sl (.int .i64)) s1.2.2.1.2.2.2.1)->((T.ok (.sl (.sl (.int .i64))) s1.2.2.1.2.2.2.2)->((inK .i64 (s.1.2.2.1+1))/\(next (((),((),((s.1.2.2.1+1),()))),(s1.2.1,(s1.2.2.1,())))))))))))))))) (fun k=>(cnd ((((List.length (List.getD (ig n from_ to) s.1.2.2.1.toNat (0,(0,[]))).2.2):Nat):Int) == 0) ((0<=s.1.2.2.1)/\((s.1.2.2.1 < (((List.length (ig n from_ to)):Nat):Int))/\((0<=(List.getD (ig n from_ to) s.1.2.2.1.toNat (0,(0,[]))).1)/\(((List.getD (ig n from_ to) s.1.2.2.1.toNat (0,(0,[]))).1 < ((s.2.2.1.2.2.2.1.length:Nat):Int))/\(k (((),((),())),(s.2.1,((s.2.2.1.1,((s.2.2.1.2.1++((List.getD (ig n from_ to) s.1.2.2.1.toNat (0,(0,[]))).1::[])),((s.2.2.1.2.2.1++((List.getD (ig n from_ to) s.1.2.2.1.toNat (0,(0,[]))).2.1::[])),((List.set s.2.2.1.2.2.2.1 (Int.toNat (List.getD (ig n from_ to) s.1.2.2.1.toNat (0,(0,[]))).1) s.1.2.2.1),s.2.2.1.2.2.2.2)))),())))))))) (k (((),((),())),(s.2.1,((s.2.2.1.1,((s.2.2.1.2.1++((List.getD (ig n from_ to) s.1.2.2.1.toNat (0,(0,[]))).1::[])),((s.2.2.1.2.2.1++((List.getD (ig n from_ to) s.1.2.2.1.toNat (0,(0,[]))).2.1::[])),s.2.2.1.2.2.2))),()))))))))))))))) (cnd (!((decide (s.2.2.1.1<=8)) && (decide (((s.2.2.1.2.1.length:Nat):Int)<=40)))) (K (s.2.2.1,())) (bu (S:=(brc×brf)) (fun s1=>(fun next1=>((inK .i64 s1.1.2.2.1)->((inK .i64 s1.2.1.1)->((T.ok (.sl (.int .i64)) s1.2.1.2.1)->((T.ok (.sl (.int .i64)) s1.2.1.2.2.1)->((T.ok (.sl (.int .i64)) s1.2.1.2.2.2.1)->((T.ok (.sl (.sl (.int .i64))) s1.2.1.2.2.2.2)->((inK .i64 s1.2.2.1.1)->((T.ok (.sl (.int .i64)) s1.2.2.1.2.1)->((T.ok (.sl (.int .i64)) s1.2.2.1.2.2.1)->((T.ok (.sl (.int .i64)) s1.2.2.1.2.2.2.1)->((T.ok (.sl (.sl (.int .i64))) s1.2.2.1.2.2.2.2)->(cnd (decide (s1.1.2.2.1 < (((List.length (ig n from_ to)):Nat):Int))) (bu (S:=bre) (fun s2=>(fun next2=>((inK .i64 s2.1.2.2.2.1)->((inK .i64 s2.2.1.1)->((T.ok (.sl (.int .i64)) s2.2.1.2.1)->((T.ok (.sl (.int .i64)) s2.2.1.2.2.1)->((T.ok (.sl (.int .i64)) s2.2.1.2.2.2.1)->((T.ok (.sl (.sl (.int .i64))) s2.2.1.2.2.2.2)->((inK .i64 s2.2.2.1.1)->((T.ok (.sl (.int .i64)) s2.2.2.1.2.1)->((T.ok (.sl (.int .i64)) s2.2.2.1.2.2.1)->((T.ok (.sl (.int .i64)) s2.2.2.1.2.2.2.1)->((T.ok (.sl (.sl (.int .i64))) s2.2.2.1.2.2.2.2)->((T.ok (.sl (.int .i64)) s2.2.2.2.1)->(cnd (decide (s2.1.2.2.2.1 < (((List.length (ig n from_ to)):Nat):Int))) ((0<=s1.1.2.2.1)/\((s1.1.2.2.1 < (((List.length (ig n from_ to)):Nat):Int))/\((0<=s2.1.2.2.2.1)/\((s2.1.2.2.2.1 < (((List.length (ig n from_ to)):Nat):Int))/\(fk (S:=bre) (fun s3=>((inK .i64 s3.1.2.2.2.1)->((inK .i64 s3.2.1.1)->((T.ok (.sl (.int .i64)) s3.2.1.2.1)->((T.ok (.sl (.int .i64)) s3.2.1.2.2.1)->((T.ok (.sl (.int .i64)) s3.2.1.2.2.2.1)->((T.ok (.sl (.sl (.int .i64))) s3.2.1.2.2.2.2)->((inK .i64 s3.2.2.1.1)->((T.ok (.sl (.int .i64)) s3.2.2.1.2.1)->((T.ok (.sl (.int .i64)) s3.2.2.1.2.2.1)->((T.ok (.sl (.int .i64)) s3.2.2.1.2.2.2.1)->((T.ok (.sl (.sl (.int .i64))) s3.2.2.1.2.2.2.2)->((T.ok (.sl (.int .i64)) s3.2.2.2.1)->((fg s3.2.2.2.1.length (List.length (s3.1.2.2.2.1::[])) 8)/\((inK .i64 (s2.1.2.2.2.1+1))/\(next2 (((),((),((),((s2.1.2.2.2.1+1),())))),(s3.2.1,(s3.2.2.1,((s3.2.2.2.1++(s3.1.2.2.2.1::[])),())))))))))))))))))))) (fun k=>(cnd ((List.getD (ig n from_ to) s1.1.2.2.1.toNat (0,(0,[]))).2.1 == (List.getD (ig n from_ to) s2.1.2.2.2.1.toNat (0,(0,[]))).1) ((0<=s1.1.2.2.1)/\((s1.1.2.2.1 < (((List.length (ig n from_ to)):Nat):Int))/\(((List.length (List.getD (ig n from_ to) s1.1.2.2.1.toNat (0,(0,[]))).2.2)<=1099511627776)/\((0<=s2.1.2.2.2.1)/\((s2.1.2.2.2.1 < (((List.length (ig n from_ to)):Nat):Int))/\((fg (List.length (List.getD (ig n from_ to) s1.1.2.2.1.toNat (0,(0,[]))).2.2) (List.length (List.getD (ig n from_ to) s2.1.2.2.2.1.toNat (0,(0,[]))).2.2) 8)/\(bu (S:=(bru×(brb×(brb×brg)))) (fun s3=>(fun next3=>((inK .i64 s3.1.2.2.2.1)->((inK .i64 s3.1.2.2.2.2.1)->((inK .i64 s3.2.1.1)->((T.ok (.sl (.int .i64)) s3.2.1.2.1)->((T.ok (.sl (.int .i64)) s3.2.1.2.2.1)->((T.ok (.sl (.int .i64)) s3.2.1.2.2.2.1)->((T.ok (.sl (.sl (.int .i64))) s3.2.1.2.2.2.2)->((inK .i64 s3.2.2.1.1)->((T.ok (.sl (.int .i64)) s3.2.2.1.2.1)->((T.ok (.sl (.int .i64)) s3.2.2.1.2.2.1)->((T.ok (.sl (.int .i64)) s3.2.2.1.2.2.2.1)->((T.ok (.sl (.sl (.int .i64))) s3.2.2.1.2.2.2.2)->((T.ok (.sl (.int .i64)) s3.2.2.2.1)->(cnd (decide (s3.1.2.2.2.2.1 < (((List.length (ig n from_ to)):Nat):Int))) ((0<=s3.1.2.2.2.2.1)/\((s3.1.2.2.2.2.1 < (((List.length (ig n from_ to)):Nat):Int))/\((0<=s1.1.2.2.1)/\((s1.1.2.2.1 < (((List.length (ig n from_ to)):Nat):Int))/\(((((List.getD (ig n from_ to) s3.1.2.2.2.2.1.toNat (0,(0,[]))).1 == (List.getD (ig n from_ to) s1.1.2.2.1.toNat (0,(0,[]))).1)=true)->((s3.1.2.2.2.2.1 < (((List.length (ig n from_ to)):Nat):Int))/\(0<=s3.1.2.2.2.2.1)))/\(fk (S:=bre) (fun s4=>((inK .i64 s4.1.2.2.2.1)->((inK .i64 s4.2.1.1)->((T.ok (.sl (.int .i64)) s4.2.1.2.1)->((T.ok (.sl (.int .i64)) s4.2.1.2.2.1)->((T.ok (.sl (.int .i64)) s4.2.1.2.2.2.1)->((T.ok (.sl (.sl (.int .i64))) s4.2.1.2.2.2.2)->((inK .i64 s4.2.2.1.1)->((T.ok (.sl (.int .i64)) s4.2.2.1.2.1)->((T.ok (.sl (.int .i64)) s4.2.2.1.2.2.1)->((T.ok (.sl (.int .i64)) s4.2.2.1.2.2.2.1)->((T.ok (.sl (.sl (.int .i64))) s4.2.2.1.2.2.2.2)->((T.ok (.sl (.int .i64)) s4.2.2.2.1)->((inK .i64 (s3.1.2.2.2.2.1+1))/\(next3 (((),((),((),(s4.1.2.2.2.1,((s3.1.2.2.2.2.1+1),()))))),(s4.2.1,(s4.2.2.1,(s4.2.2.2.1,()))))))))))))))))))) (fun k1=>(cnd (((List.getD (ig n from_ to) s3.1.2.2.2.2.1.toNat (0,(0,[]))).1 == (List.getD (ig n from_ to) s1.1.2.2.1.toNat (0,(0,[]))).1) && (eqR (.sl (.int .i64)) (List.getD (ig n from_ to) s3.1.2.2.2.2.1.toNat (0,(0,[]))).2.2 ((List.getD (ig n from_ to) s1.1.2.2.1.toNat (0,(0,[]))).2.2++(List.getD (ig n from_ to) s2.1.2.2.2.1.toNat (0,(0,[]))).2.2))) (k1 (((),((),((),(s3.1.2.2.2.2.1,())))),(s3.2.1,(s3.2.2.1,(s3.2.2.2.1,()))))) (k1 (((),((),((),(s3.1.2.2.2.1,())))),(s3.2.1,(s3.2.2.1,(s3.2.2.2.1,()))))))))))))) (k (((),((),((),(s3.1.2.2.2.1,())))),(s3.2.1,(s3.2.2.1,(s3.2.2.2.1,()))))))))))))))))))))) (((),((),((),((-1),(0,()))))),(s2.2.1,(s2.2.2.1,(s2.2.2.2.1,()))))))))))) (k (((),((),((),((-1),())))),(s2.2.1,(s2.2.2.1,(s2.2.2.2.1,())))))))))))) ((fg s2.2.2.1.2.2.2.2.length (List.length (s2.2.2.2.1::[])) 24)/\((inK .i64 (s1.1.2.2.1+1))/\(next1 (((),((),((s1.1.2.2.1+1),()))),(s2.2.1,((s2.2.2.1.1,(s2.2.2.1.2.1,(s2.2.2.1.2.2.1,(s2.2.2.1.2.2.2.1,(s2.2.2.1.2.2.2.2++(s2.2.2.2.1::[])))))),()))))))))))))))))))))) (((),((),((),(0,())))),(s1.2.1,(s1.2.2.1,([],()))))) (K (s1.2.2.1,())))))))))))))))) (((),((),(0,()))),(s.2.1,(s.2.2.1,()))))))))))))))))))) (((),((),(0,()))),((0,([],([],([],[])))),((n,([],([],((List.replicate n.toNat (0:Int)),[])))),()))))))))))))
theorem aus (x:bi kx.args) (K:ac×Unit->Prop):evF tab aie (aw [(20,10),(21,511),(6,508),(7,508),(25,18),(9,508)]) Try.f94 (aj Try.f94) aig kx x K=aaf x.1 x.2.1 x.2.2.1 K:=by kernel_rfl
theorem avr:okC Try.f94.ntmps (aw [(20,10),(21,511),(6,508),(7,508),(25,18),(9,508)]) (aj Try.f94)=true:=by kernel_rfl
theorem avg (n:Int) (from_:List Int) (to:List Int) (hok:ae (okL kx.args (n,from_,to,()))) (hpre:ae (kx.pre (n,from_,to,()))):aaf n from_ to (fun r=>r=kx.res (n,from_,to,())):=by
 simp only [kx,okL,T.oks,T.ok,ap,ae,true_and,and_true,implies_true]at hok hpre
 try dsimp only [T.den]at hok
 try dsimp only [T.den]at hpre
 unfold aaf
 obtain ⟨n0,n8,ht,hf⟩:=hpre
 have hm:=@bog n from_ to
 have hx:=@bnx n from_ to n8
 refine ⟨n0,n8,ht,hf,n0,Int.le_refl _,by omega,by omega,?_⟩
 simp only [kx,nq]
 generalize ig n from_ to=l at *
 have hg:∀ {i:Int},0<=i->i < l.length->(0<=(pAt l i).1/\(pAt l i).1 < n)/\(pAt l i).2.2.length<=42:=fun h0 h1=>hm (gf l _ h0 h1)
 refine ca (fun (s:(brc×brf))=>0<=s.1.2.2.1/\s.1.2.2.1<=l.length/\s.2.2.1=(n,((l.take s.1.2.2.1.toNat).map (·.1),((l.take s.1.2.2.1.toNat).map (·.2.1),(aau l n s.1.2.2.1.toNat,[]))))) (fun (s:(brc×brf))=>(l.length - s.1.2.2.1).toNat) ?_ ⟨by simp,by simp,rfl⟩
 rintro ⟨⟨_,_,i,_⟩,o1,c,_⟩ next ⟨i0,i1,q⟩ hnx
 intros
 try dsimp only at i0 i1 q hnx ⊢
 subst q
 refine bf (fun hi=>?_) (fun hi=>?_)
 ·have hp:=hg i0 hi
  have ht:=af3 l (0,(0,[])) i0 hi
  have hs:=bdu (l:=l) (n:=n) i0
  have hl:((l.take i.toNat).map (·.1)).length=i.toNat:=by rw [List.length_map,List.length_take];omega
  have hl2:((l.take i.toNat).map (·.2.1)).length=i.toNat:=by rw [List.length_map,List.length_take];omega
  have hil:=@ai4 l n i.toNat
  have hc:(n,((l.take (i+1).toNat).map (·.1),((l.take (i+1).toNat).map (·.2.1),(aau l n (i+1).toNat,([]:List (List Int))))))=(n,((l.take i.toNat).map (·.1)++[(pAt l i).1],((l.take i.toNat).map (·.2.1)++[(pAt l i).2.1],(aau l n (i+1).toNat,[])))):=by rw [ht,List.map_append,List.map_append];rfl
  refine ⟨i0,hi,cw (by rw [hl];simp only [List.length_cons,List.length_nil];omega),i0,hi,cw (by rw [hl2];simp only [List.length_cons,List.length_nil];omega),i0,hi,dn (fun (q:(brp×brf))=>q.2.2.1=(n,((l.take (i+1).toNat).map (·.1),((l.take (i+1).toNat).map (·.2.1),(aau l n (i+1).toNat,([]:List (List Int))))))) ?_ ?_⟩
  ·rintro ⟨_,o2,c2,_⟩ q2
   intros
   try dsimp only at q2 ⊢
   subst q2
   exact ⟨by rw [au];(try dsimp only);omega,hnx _ ⟨by dsimp only;omega,by dsimp only;omega,rfl⟩ (by dsimp only;omega)⟩
  ·intro k hk
   rw [hc,hs]at hk
   refine be (fun h=>?_) (fun h=>?_)
   ·have h0:(pAt l i).2.2.length=0:=(by have:(((pAt l i).2.2.length:Nat):Int)=0:=eq_of_beq h;omega)
    rw [if_pos h0]at hk
    exact ⟨i0,hi,hp.1.1,by rw [hil];show (pAt l i).1 < _;omega,hk _ rfl⟩
   ·have h0:¬ (pAt l i).2.2.length=0:=(by have:¬ (((pAt l i).2.2.length:Nat):Int)=0:=beq_eq_false_iff_ne.1 h;omega)
    rw [if_neg h0]at hk
    exact hk _ rfl
 have ei:i=l.length:=by omega
 subst ei
 clear hnx
 rw [Int.toNat_natCast,List.take_length]
 simp only [List.length_map]
 refine be (fun h=>?_) (fun h=>?_)
 ·have h40:¬ l.length<=40:=by simp only [Bool.not_eq_true',Bool.and_eq_false_iff,decide_eq_false_iff_not]at h;omega
  unfold bcp;rw [if_neg h40];rfl
 have h40:l.length<=40:=by simp only [Bool.not_eq_false',Bool.and_eq_true,decide_eq_true_eq]at h;omega
 have hcat:bcp n l=qf n l (ce l.length (fun i=>ce l.length (vh l i))):=by unfold bcp;rw [if_pos h40]
 rw [hcat]
 refine ca (fun (s:(brc×brf))=>0<=s.1.2.2.1/\s.1.2.2.1<=l.length/\s.2.2.1=qf n l (ce s.1.2.2.1.toNat (fun i=>ce l.length (vh l i)))) (fun (s:(brc×brf))=>(l.length - s.1.2.2.1).toNat) ?_ ⟨by simp,by simp,rfl⟩
 rintro ⟨⟨_,_,i,_⟩,o1,c,_⟩ next ⟨i0,i1,q⟩ hnx
 intros
 try dsimp only at i0 i1 q hnx ⊢
 subst q
 refine bf (fun hi=>?_) (fun hi=>?_)
 ·have hp:=hg i0 hi
  refine ca (fun (s:bre)=>0<=s.1.2.2.2.1/\s.1.2.2.2.1<=l.length/\s.2.2.1=qf n l (ce i.toNat (fun i=>ce l.length (vh l i)))/\s.2.2.2.1=ce s.1.2.2.2.1.toNat (vh l i)) (fun (s:bre)=>(l.length - s.1.2.2.2.1).toNat) ?_ ⟨by simp,by simp,rfl,rfl⟩
  rintro ⟨⟨_,_,_,j,_⟩,o2,c,r,_⟩ next1 ⟨j0,j1,q,qr⟩ hn1
  intros
  try dsimp only at j0 j1 q qr hn1 ⊢
  subst q;subst qr
  refine bf (fun hj=>?_) (fun hj=>?_)
  ·have hq:=hg j0 hj
   refine ⟨i0,hi,j0,hj,dn (fun (q:bre)=>q.1.2.2.2.1=vh l i j/\q.2.2.1=qf n l (ce i.toNat (fun i=>ce l.length (vh l i)))/\q.2.2.2.1=ce j.toNat (vh l i)) ?_ ?_⟩
   ·rintro ⟨⟨_,_,_,h,_⟩,o3,c3,r3,_⟩ ⟨e1,e2,e3⟩
    intros
    try dsimp only at e1 e2 e3 ⊢
    subst e1;subst e2;subst e3
    exact ⟨cw (by rw [c6];simp only [List.length_cons,List.length_nil];omega),by rw [au];(try dsimp only);omega,hn1 _ ⟨by dsimp only;omega,by dsimp only;omega,rfl,(yc j0).symm⟩ (by dsimp only;omega)⟩
   ·intro k hk
    refine be (fun h=>?_) (fun h=>?_)
    ·have he:(pAt l i).2.1=(pAt l j).1:=eq_of_beq h
     refine ⟨i0,hi,by have:=hp.2;unfold pAt at this;omega,j0,hj,cw (by have:=hp.2;have:=hq.2;unfold pAt at *;omega),?_⟩
     have hcm:vh l i j=ajk l.length (ad2 l i j):=by unfold vh;rw [if_pos he]
     rw [hcm]at hk
     refine ca (fun (s:(bru×(brb×(brb×brg))))=>0<=s.1.2.2.2.2.1/\s.1.2.2.2.2.1<=l.length/\s.1.2.2.2.1=ajk s.1.2.2.2.2.1.toNat (ad2 l i j)/\s.2.2.1=qf n l (ce i.toNat (fun i=>ce l.length (vh l i)))/\s.2.2.2.1=ce j.toNat (vh l i)) (fun (s:(bru×(brb×(brb×brg))))=>(l.length - s.1.2.2.2.2.1).toNat) ?_ ⟨by simp,by simp,rfl,rfl,rfl⟩
     rintro ⟨⟨_,_,_,h,m,_⟩,o3,c3,r3,_⟩ next3 ⟨m0,m1,e1,e2,e3⟩ hn3
     intros
     try dsimp only at m0 m1 e1 e2 e3 hn3 ⊢
     subst e1;subst e2;subst e3
     refine bf (fun hm=>?_) (fun hm=>?_)
     ·refine ⟨m0,hm,i0,hi,fun _=>⟨hm,m0⟩,dn (fun (q:bre)=>q.1.2.2.2.1=ajk (m+1).toNat (ad2 l i j)/\q.2.2.1=qf n l (ce i.toNat (fun i=>ce l.length (vh l i)))/\q.2.2.2.1=ce j.toNat (vh l i)) ?_ ?_⟩
      ·rintro ⟨⟨_,_,_,h,_⟩,o4,c4,r4,_⟩ ⟨e1,e2,e3⟩
       intros
       try dsimp only at e1 e2 e3 ⊢
       subst e1;subst e2;subst e3
       exact ⟨by rw [au];(try dsimp only);omega,hn3 _ ⟨by dsimp only;omega,by dsimp only;omega,rfl,rfl,rfl⟩ (by dsimp only;omega)⟩
      ·intro k1 hk1
       rw [bj6 m0]at hk1
       refine be (fun hb=>?_) (fun hb=>?_)
       ·exact hk1 _ ⟨(if_pos hb).symm,rfl,rfl⟩
       ·exact hk1 _ ⟨(if_neg (by show ¬ ad2 l i j m=true;exact fun h=>by rw [show ad2 l i j m=false from hb]at h;cases h)).symm,rfl,rfl⟩
     ·have em:m=l.length:=by omega
      subst em
      exact hk _ ⟨rfl,rfl,rfl⟩
    ·have he:¬ (pAt l i).2.1=(pAt l j).1:=beq_eq_false_iff_ne.1 h
     have hcm:vh l i j=-1:=by unfold vh;rw [if_neg he]
     rw [hcm]at hk
     exact hk _ ⟨rfl,rfl,rfl⟩
  ·have ej:j=l.length:=by omega
   subst ej
   refine ⟨cw (by show ((ce i.toNat _).length+_) * 24<=_;rw [c6];simp only [List.length_cons,List.length_nil];omega),by rw [au];(try dsimp only);omega,hnx _ ⟨by dsimp only;omega,by dsimp only;omega,?_⟩ (by dsimp only;omega)⟩
   try dsimp only
   rw [yc i0]
   rfl
 ·have ei:i=l.length:=by omega
  subst ei
  rfl
theorem ada:dg Try.prog 94 kx:=
 d7 (Φ:=aie) (am xh (am at8 (am zz (am awp ba)))) bo (by kernel_rfl) (fn:=Try.f94) (c:=aj Try.f94) (by kernel_rfl) (by kernel_rfl) (by kernel_rfl) kx rfl aig (aw [(20,10),(21,511),(6,508),(7,508),(25,18),(9,508)]) (by kernel_rfl) (by kernel_rfl) avr (by decide) (fun x K=>aaf x.1 x.2.1 x.2.2.1 K) aus (fun x h1 h2=>avg x.1 x.2.1 x.2.2.1 h1 h2)
def jw (p:Int×Int×List Int):eq:=((p.1,p.2.1),p.2.2)
def u6 (n:Int) (fr to:List Int):List brn:=mj fr to 42 0 (pn n)
def il (n:Int) (fr to:List Int):List eq×Bool:=if (u6 n fr to).length<=40 then (al3 ((u6 n fr to).map jw),true)else ([],false)
theorem bl6 {fr to:List Int} {p:Int×Int×List Int}:∀ {n m:Nat},n<=m->(pf fr to p n).length<=(pf fr to p m).length:=by
 intro n m h
 induction m with
 | zero=>rw [show n=0 by omega];exact Nat.le_refl _
 | succ m ih=>
  by_cases e:n=m+1
  ·rw [e];exact Nat.le_refl _
  ·have:=ih (by omega)
   have h2:=@bhu fr to p m (by omega)
   rw [show ((m:Int)+1).toNat=m+1 from by omega,Int.toNat_natCast]at h2
   rw [h2,List.length_append];omega
theorem bdg {l:List brn} {k:Nat}:(l.map jw).getD k ((0,0),[])=jw (l.getD k (0,(0,[]))):=by
 simp only [List.getD_eq_getElem?_getD,List.getElem?_map]
 cases l[k]? <;> rfl
def me:Ct:=⟨[(.int .i64),(.sl (.int .i64)),(.sl (.int .i64))],[false,false,false],fun x=>[0<=x.1,x.1<=8,bn x.2.1 x.1=true,bn x.2.2.1 x.1=true,x.2.2.1.length=x.2.1.length],[(false,(.fz (.sl sv))),(false,(.fz .bool))],fun x=>((il x.1 x.2.1 x.2.2.1).1,(il x.1 x.2.1 x.2.2.1).2,()),true,none⟩
def al5:Ann:=(.s .n (.j [(8,(.ref 800008 []))] [(800008,(.sl (.fz (.p (.p (.int .i64) (.int .i64)) (.sl (.int .i64))))))] [0,1,2] (.s .n (.s (.s .n (.l [(8,(.ref 800008 [])),(9,(.d (.int .i64)))] [(800008,(.sl (.fz (.p (.p (.int .i64) (.int .i64)) (.sl (.int .i64))))))] [0,1,2] .n)) (.s (.s .n (.l [(8,(.ref 800008 [])),(10,(.d (.int .i64)))] [(800008,(.sl (.fz (.p (.p (.int .i64) (.int .i64)) (.sl (.int .i64))))))] [1,2] (.s .n (.s (.s .n (.l [(8,(.ref 800008 [])),(33,(.d (.int .i64)))] [(800008,(.sl (.fz (.p (.p (.int .i64) (.int .i64)) (.sl (.int .i64))))))] [1,2,10,32] (.s .n (.s .n (.s (.j [(8,(.ref 800008 []))] [(800008,(.sl (.fz (.p (.p (.int .i64) (.int .i64)) (.sl (.int .i64))))))] [1,2,10,32,33] .n) .n))))) .n)))) .n)))))
def alz:FuncId->Option Ct:=lkp [(124,pi),(69,ou)]
def acl (n:Int) (from_:List Int) (to:List Int) (K:(List eq)×Bool×Unit->Prop):Prop:=(fk (S:=((Unit×Unit)×brm)) (fun s=>((T.ok (.sl sv) s.2.1)->(bu (S:=(brh×brm)) (fun s1=>(fun next=>((inK .i64 s1.1.2.1)->((T.ok (.sl sv) s1.2.1)->(cnd (decide (s1.1.2.1 < n)) ((fg s1.2.1.length (List.length (((s1.1.2.1,s1.1.2.1),[])::([]:List brz))) 40)/\((inK .i64 (s1.1.2.1+1))/\(next (((),((s1.1.2.1+1),())),((s1.2.1++(((s1.1.2.1,s1.1.2.1),[])::([]:List brz))),()))))) (bu (S:=(brh×brm)) (fun s2=>(fun next1=>((inK .i64 s2.1.2.1)->((T.ok (.sl sv) s2.2.1)->(cnd (decide (s2.1.2.1 < ((s2.2.1.length:Nat):Int))) (bu (S:=(brh×brm)) (fun s3=>(fun next2=>((inK .i64 s3.1.2.1)->((T.ok (.sl sv) s3.2.1)->(cnd (decide (s3.1.2.1 < ((from_.length:Nat):Int))) (fk (S:=((Unit×Unit)×brm)) (fun s4=>((T.ok (.sl sv) s4.2.1)->((inK .i64 (s3.1.2.1+1))/\(next2 (((),((s3.1.2.1+1),())),(s4.2.1,())))))) (fun k=>((0<=s3.1.2.1)/\((s3.1.2.1 < ((from_.length:Nat):Int))/\((0<=s2.1.2.1)/\((s2.1.2.1 < ((s3.2.1.length:Nat):Int))/\(cnd ((List.getD from_ s3.1.2.1.toNat 0) != (List.getD s3.2.1 s2.1.2.1.toNat ((0,0),[])).1.2) (k (((),()),(s3.2.1,()))) (cnd (((s3.2.1.length:Nat):Int) == 40) (K (([]:List brz),(false,()))) ((0<=s2.1.2.1)/\((s2.1.2.1 < ((s3.2.1.length:Nat):Int))/\((0<=s3.1.2.1)/\((s3.1.2.1 < ((to.length:Nat):Int))/\((0<=s2.1.2.1)/\((s2.1.2.1 < ((s3.2.1.length:Nat):Int))/\(((List.length (List.getD s3.2.1 s2.1.2.1.toNat ((0,0),[])).2)<=1099511627776)/\((fg (List.length (List.getD s3.2.1 s2.1.2.1.toNat ((0,0),[])).2) (List.length (s3.1.2.1::[])) 8)/\((fg s3.2.1.length (List.length ((((List.getD s3.2.1 s2.1.2.1.toNat ((0,0),[])).1.1,(List.getD to s3.1.2.1.toNat 0)),((List.getD s3.2.1 s2.1.2.1.toNat ((0,0),[])).2++(s3.1.2.1::[])))::([]:List brz))) 40)/\(k (((),()),((s3.2.1++((((List.getD s3.2.1 s2.1.2.1.toNat ((0,0),[])).1.1,(List.getD to s3.1.2.1.toNat 0)),((List.getD s3.2.1 s2.1.2.1.toNat ((0,0),[])).2++(s3.1.2.1::[])))::([]:List brz))),())))))))))))))))))))) ((inK .i64 (s2.1.2.1+1))/\(next1 (((),((s2.1.2.1+1),())),(s3.2.1,()))))))))) (((),(0,())),(s2.2.1,()))) ((SoPR s2.2.1)/\(K ((al3 s2.2.1),(true,()))))))))) (((),(0,())),(s1.2.1,())))))))) (((),(0,())),(s.2.1,()))))) (fun k=>(k (((),()),(([]:List brz),())))))
theorem baf (x:bi me.args) (K:(List eq)×Bool×Unit->Prop):evF tab alz (aw [(12,10),(15,8000095020)]) Try.f86 (aj Try.f86) al5 me x K=acl x.1 x.2.1 x.2.2.1 K:=by kernel_rfl
theorem azx:okC Try.f86.ntmps (aw [(12,10),(15,8000095020)]) (aj Try.f86)=true:=by kernel_rfl
theorem azy (n:Int) (from_:List Int) (to:List Int) (hok:ae (okL me.args (n,from_,to,()))) (hpre:ae (me.pre (n,from_,to,()))):acl n from_ to (fun r=>r=me.res (n,from_,to,())):=by
 simp only [me,okL,T.oks,T.ok,ap,ae,true_and,and_true,implies_true]at hok hpre
 try dsimp only [T.den]at hok
 try dsimp only [T.den]at hpre
 unfold acl
 obtain ⟨n0,n8,hwf,hwt,ht⟩:=hpre
 have hf:from_.length<=140737488355328:=by have:=hok.2.1.1;rw [fy]at this;omega
 clear hok
 refine dn (fun (s:((Unit×Unit)×brm))=>s.2.1=[]) ?_ (fun k hk=>hk _ rfl)
 rintro ⟨_,l0,_⟩ e0
 intros
 try dsimp only at e0 ⊢
 subst e0
 refine ca (fun (s:(brh×brm))=>0<=s.1.2.1/\s.1.2.1<=n/\s.2.1=(pn s.1.2.1).map jw) (fun (s:(brh×brm))=>(n - s.1.2.1).toNat) ?_ ⟨by simp,n0,rfl⟩
 rintro ⟨⟨_,x,_⟩,l,_⟩ next ⟨x0,x1,q⟩ hnx
 intros
 try dsimp only at x0 x1 q hnx ⊢
 subst q
 have zl:((pn x).map jw).length=x.toNat:=by rw [List.length_map];exact c6 _
 refine bf (fun hx=>?_) (fun hx=>?_)
 ·refine ⟨cw (by rw [zl];simp only [List.length_cons,List.length_nil];omega),by rw [au];(try dsimp only);omega,hnx _ ⟨by dsimp only;omega,by dsimp only;omega,?_⟩ (by dsimp only;omega)⟩
  try dsimp only
  unfold pn
  rw [yc x0,List.map_append]
  rfl
 have ex:x=n:=by omega
 subst ex
 clear hnx
 have hz0:∀ p ∈ pn x,(p.2.2.length:Int)<=0/\amt (jw p):=by
  intro p hp
  have h:=ac3 hp
  refine ⟨by rw [h.2.2.2];simp,⟨h.1,by show p.1<=8;omega⟩,by show 0<=p.2.1;omega,by show p.2.1<=8;omega⟩
 have hzl:(pn x).length<=40:=by show (ce _ _).length<=40;rw [c6];omega
 refine ca (fun (s:(brh×brm))=>0<=s.1.2.1/\s.1.2.1<=40/\∃ L,s.2.1=L.map jw/\L.length<=40/\u6 x from_ to=mj from_ to (42 - s.1.2.1).toNat s.1.2.1.toNat L/\(∀ p ∈ L,(p.2.2.length:Int)<=s.1.2.1/\amt (jw p))) (fun (s:(brh×brm))=>(40 - s.1.2.1).toNat) ?_ ⟨by simp,by simp,pn x,rfl,hzl,rfl,hz0⟩
 rintro ⟨⟨_,k,_⟩,L',_⟩ next ⟨k0,k41,L,q,hL,hg,hp⟩ hnx
 intros
 try dsimp only at k0 k41 q hg hp hnx ⊢
 subst q
 simp only [List.length_map]
 refine bf (fun hc=>?_) (fun hc=>?_)
 ·have hpk:=hp _ (gf L (0,(0,[])) k0 hc)
  have hgk:u6 x from_ to=mj from_ to (42 - (k+1)).toNat (k+1).toNat (L++tg from_ to (L.getD k.toNat (0,0,[]))):=by
   rw [hg,show (42 - k).toNat=(42 - (k+1)).toNat+1 from by omega,show (k+1).toNat=k.toNat+1 from by omega]
   simp only [mj]
   rw [if_pos ⟨by omega,by omega⟩]
  generalize hP:L.getD k.toNat (0,(0,[]))=P at *
  refine ca (fun (s:(brh×brm))=>0<=s.1.2.1/\s.1.2.1<=from_.length/\s.2.1=(L++pf from_ to P s.1.2.1.toNat).map jw/\(L++pf from_ to P s.1.2.1.toNat).length<=40) (fun (s:(brh×brm))=>(from_.length - s.1.2.1).toNat) ?_ ⟨by simp,by simp,by simp [pf,ce],by simpa [pf,ce]using hL⟩
  rintro ⟨⟨_,e,_⟩,M,_⟩ next1 ⟨e0,e1,q,hM⟩ hn1
  intros
  try dsimp only at e0 e1 q hM hn1 ⊢
  subst q
  have hMk:k < (L++pf from_ to P e.toNat).length:=by rw [List.length_append];omega
  have hG:(L++pf from_ to P e.toNat).getD k.toNat (0,(0,[]))=P:=by rw [ade (by omega),hP]
  have hE:=@bhu from_ to P e e0
  rw [bdg,hG,List.length_map]
  refine bf (fun he=>?_) (fun he=>?_)
  ·refine dn (fun (q:((Unit×Unit)×brm))=>q.2.1=(L++pf from_ to P (e+1).toNat).map jw/\(L++pf from_ to P (e+1).toNat).length<=40) ?_ ?_
   ·rintro ⟨_,M2,_⟩ ⟨q2,q3⟩
    intros
    try dsimp only at q2 q3 ⊢
    subst q2
    exact ⟨by rw [au];(try dsimp only);omega,hn1 _ ⟨by dsimp only;omega,by dsimp only;omega,rfl,q3⟩ (by dsimp only;omega)⟩
   ·intro k1 hk1
    rw [hE]at hk1
    refine ⟨e0,by omega,k0,hMk,be (fun hb=>?_) (fun hb=>?_)⟩
    ·have hb':¬ (from_.getD e.toNat 0 == P.2.1)=true:=by
      rw [bne_iff_ne]at hb
      intro h;exact hb (eq_of_beq h)
     rw [if_neg hb',List.append_nil]at hk1
     exact hk1 _ ⟨rfl,hM⟩
    ·have hb':(from_.getD e.toNat 0 == P.2.1)=true:=by
      have:=bne_eq_false_iff_eq.1 hb
      exact beq_iff_eq.2 this
     rw [if_pos hb']at hk1 hE
     refine be (fun h40=>?_) (fun h40=>?_)
     ·have h41:(L++pf from_ to P e.toNat).length=40:=by have:=eq_of_beq h40;omega
      have hex:(L++tg from_ to P).length > 40:=by
       have:=@bl6 from_ to P (e+1).toNat from_.length (by omega)
       rw [hE]at this
       unfold tg
       rw [List.length_append]at h41 ⊢
       rw [List.length_append]at this
       simp only [List.length_cons,List.length_nil]at this
       omega
      have hgl:u6 x from_ to=L++tg from_ to P:=hgk.trans (bbm (by omega))
      simp only [me,il]
      rw [hgl,if_neg (by omega)]
     ·have h41:¬ (L++pf from_ to P e.toNat).length=40:=by have:=beq_eq_false_iff_ne.1 h40;omega
      have hl2:(jw P).2.length<=40:=by show P.2.2.length<=40;omega
      refine ⟨k0,hMk,e0,by omega,k0,hMk,by omega,cw (by simp only [List.length_cons,List.length_nil];omega),cw (by simp only [List.length_cons,List.length_nil];omega),hk1 _ ⟨?_,?_⟩⟩
      ·try dsimp only
       rw [← List.append_assoc,List.map_append (l₂:=[_])]
       rfl
      ·rw [← List.append_assoc,List.length_append]
       simp only [List.length_cons,List.length_nil]
       omega
  ·have ee:e=from_.length:=by omega
   subst ee
   refine ⟨by rw [au];(try dsimp only);omega,hnx _ ⟨by dsimp only;omega,by dsimp only;omega,L++tg from_ to P,rfl,hM,hgk,?_⟩ (by dsimp only;omega)⟩
   intro p hp'
   try dsimp only at hp' ⊢
   rcases List.mem_append.1 hp' with h | h
   ·have:=hp p h;exact ⟨by omega,this.2⟩
   ·refine ⟨by have:=ayi h;omega,?_⟩
    unfold tg pf at h
    obtain ⟨e,he,rfl⟩:=List.mem_map.1 h
    obtain ⟨he,_⟩:=List.mem_filter.1 he
    obtain ⟨_,h0,h1,rfl⟩:=n7.1 he
    have hq:=io.1 hwt e h0 (by omega)
    exact ⟨hpk.2.1,hq.1,by show to.getD e.toNat 0<=8;omega⟩
 ·have hgl:u6 x from_ to=L:=hg.trans (bbm (by omega))
  refine ⟨⟨fun p hp'=>?_⟩,?_⟩
  ·obtain ⟨q,hq,rfl⟩:=List.mem_map.1 hp'
   exact (hp q hq).2
  ·simp only [me,il]
   rw [hgl,if_pos hL]
theorem axv:dg Try.prog 86 me:=
 d7 (Φ:=alz) (am ws (am aom ba)) bo (by kernel_rfl) (fn:=Try.f86) (c:=aj Try.f86) (by kernel_rfl) (by kernel_rfl) (by kernel_rfl) me rfl al5 (aw [(12,10),(15,8000095020)]) (by kernel_rfl) (by kernel_rfl) azx (by decide) (fun x K=>acl x.1 x.2.1 x.2.2.1 K) baf (fun x h1 h2=>azy x.1 x.2.1 x.2.2.1 h1 h2)
def ov:Ct:=⟨[(.sl (.int .i64)),(.sl (.int .i64))],[false,false],fun x=>[],[(false,(.fz .bool))],fun x=>(eqR (.sl (.int .i64)) x.1 x.2.1,()),false,none⟩
def afh (a:List Int) (b:List Int) (K:Bool×Unit->Prop):Prop:=(K (((kf a b) == 0),()))
theorem bej (x:bi ov.args) (K:Bool×Unit->Prop):evF tab (lkp [(119,gv)]) (aw []) Try.f70 (aj Try.f70) .n ov x K=afh x.1 x.2.1 K:=by kernel_rfl
theorem bec:okC Try.f70.ntmps (aw []) (aj Try.f70)=true:=by kernel_rfl
theorem bed (a:List Int) (b:List Int) (hok:ae (okL ov.args (a,b,()))) (hpre:ae (ov.pre (a,b,()))):afh a b (fun r=>r=ov.res (a,b,())):=by
 simp only [ov,okL,T.oks,T.ok,ap,ae,true_and,and_true,implies_true]at hok hpre
 try dsimp only [T.den]at hok
 try dsimp only [T.den]at hpre
 unfold afh
 have h:=@bc9 a b
 have h2:(kf a b == 0)=eqR (.sl (.int .i64)) a b:=by
  rw [Bool.eq_iff_iff,beq_iff_eq,h,adg]
 simp only [ov,h2]
theorem bca:dg Try.prog 70 ov:=
 d7 (Φ:=lkp [(119,gv)]) (am aka ba) bo (by kernel_rfl) (fn:=Try.f70) (c:=aj Try.f70) (by kernel_rfl) (by kernel_rfl) (by kernel_rfl) ov rfl .n (aw []) (by kernel_rfl) (by kernel_rfl) bec (by decide) (fun x K=>afh x.1 x.2.1 K) bej (fun x h1 h2=>bed x.1 x.2.1 h1 h2)
def yv (l:List eq) (i:Int):eq:=l.getD i.toNat ((0,0),[])
def ad7 (l:List eq) (f g:Int) (e:List Int) (r:eq):Bool:=(r.1.1 == (yv l f).1.1 && r.1.2 == (yv l g).1.2) && eqR (.sl (.int .i64)) r.2 e
def gp:Ct:=⟨[sv,(.pt (.sl sv)),(.pt (.int .i64)),(.pt (.int .i64)),(.pt (.sl (.int .i64)))],[true,false,false,false,false],fun x=>[0<=x.2.2.1,x.2.2.1 < x.2.1.length,0<=x.2.2.2.1,x.2.2.2.1 < x.2.1.length],[(false,(.fz .bool))],fun x=>(ad7 x.2.1 x.2.2.1 x.2.2.2.1 x.2.2.2.2.1 x.1,()),false,none⟩
def qj (r:eq) (list:List eq) (f:Int) (g:Int) (edges:List Int) (K:Bool×Unit->Prop):Prop:=((0<=f)/\((f < ((list.length:Nat):Int))/\((0<=g)/\((g < ((list.length:Nat):Int))/\(K ((((r.1.1 == (List.getD list f.toNat ((0,0),[])).1.1) && (r.1.2 == (List.getD list g.toNat ((0,0),[])).1.2)) && (eqR (.sl (.int .i64)) r.2 edges)),()))))))
theorem ajh (x:bi gp.args) (K:Bool×Unit->Prop):evF tab (lkp [(70,ov)]) (aw [(1,20)]) Try.f90 (aj Try.f90) .n gp x K=qj x.1 x.2.1 x.2.2.1 x.2.2.2.1 x.2.2.2.2.1 K:=by kernel_rfl
theorem aji:okC Try.f90.ntmps (aw [(1,20)]) (aj Try.f90)=true:=by kernel_rfl
theorem ajc (r:eq) (list:List eq) (f:Int) (g:Int) (edges:List Int) (hok:ae (okL gp.args (r,list,f,g,edges,()))) (hpre:ae (gp.pre (r,list,f,g,edges,()))):qj r list f g edges (fun rs=>rs=gp.res (r,list,f,g,edges,())):=by
 simp only [gp,okL,T.oks,T.ok,ap,ae,true_and,and_true,implies_true]at hok hpre
 try dsimp only [T.den]at hok
 try dsimp only [T.den]at hpre
 unfold qj
 exact ⟨hpre.1,hpre.2.1,hpre.2.2.1,hpre.2.2.2,rfl⟩
theorem ah3:dg Try.prog 90 gp:=
 d7 (Φ:=lkp [(70,ov)]) (am bca ba) bo (by kernel_rfl) (fn:=Try.f90) (c:=aj Try.f90) (by kernel_rfl) (by kernel_rfl) (by kernel_rfl) gp rfl .n (aw [(1,20)]) (by kernel_rfl) (by kernel_rfl) aji (by decide) (fun x K=>qj x.1 x.2.1 x.2.2.1 x.2.2.2.1 x.2.2.2.2.1 K) ajh (fun x h1 h2=>ajc x.1 x.2.1 x.2.2.1 x.2.2.2.1 x.2.2.2.2.1 h1 h2)
def ann (p:eq->Bool):List eq->Int->Int
 | [],_=>-1
 | x::s,k=>if p x then k else ann p s (k+1)
def aqp (s l:List eq) (f g:Int) (e:List Int):Int:=ann (ad7 l f g e) s 0
theorem bnm {p:eq->Bool} {s:List eq} {i:Int} (h0:0<=i) (h1:i < s.length):ann p (s.drop i.toNat) i=if p (s.getD i.toNat ((0,0),[]))=true then i else ann p (s.drop (i+1).toNat) (i+1):=by
 rw [aay s ((0,0),[]) h0 h1];rfl
def bz:Ct:=⟨[(.sl sv),(.fn 90 (.p (.pt (.sl sv)) (.p (.pt (.int .i64)) (.p (.pt (.int .i64)) (.p (.pt (.sl (.int .i64))) .u)))))],[false,false],fun x=>[0<=x.2.1.2.1,x.2.1.2.1 < x.2.1.1.length,0<=x.2.1.2.2.1,x.2.1.2.2.1 < x.2.1.1.length],[(false,(.fz (.int .i64)))],fun x=>(aqp x.1 x.2.1.1 x.2.1.2.1 x.2.1.2.2.1 x.2.1.2.2.2.1,()),false,none⟩
def nz:Ann:=(.s .n (.s (.s .n (.l [(8,(.d (.int .i64)))] [] [0,1,7] .n)) .n))
def ir (s:List eq) (f:(List eq)×(Int×(Int×brg))) (K:Int×Unit->Prop):Prop:=(bu (S:=brl) (fun s1=>(fun next=>((inK .i64 s1.1.1)->(cnd (decide (s1.1.1 < ((s.length:Nat):Int))) ((0<=s1.1.1)/\((s1.1.1 < ((s.length:Nat):Int))/\((0<=f.2.1)/\((f.2.1 < ((f.1.length:Nat):Int))/\((0<=f.2.2.1)/\((f.2.2.1 < ((f.1.length:Nat):Int))/\(cnd (ad7 f.1 f.2.1 f.2.2.1 f.2.2.2.1 (List.getD s s1.1.1.toNat ((0,0),[]))) (K (s1.1.1,())) ((inK .i64 (s1.1.1+1))/\(next (((s1.1.1+1),()),())))))))))) (K ((-1),())))))) ((0,()),()))
theorem vv (x:bi bz.args) (K:Int×Unit->Prop):evF tab (lkp [(90,gp)]) (aw []) Try.f89 (aj Try.f89) nz bz x K=ir x.1 x.2.1 K:=by kernel_rfl
theorem vp:okC Try.f89.ntmps (aw []) (aj Try.f89)=true:=by kernel_rfl
theorem wh (s:List eq) (f:(List eq)×(Int×(Int×brg))) (hok:ae (okL bz.args (s,f,()))) (hpre:ae (bz.pre (s,f,()))):ir s f (fun r=>r=bz.res (s,f,())):=by
 simp only [bz,okL,T.oks,T.ok,ap,ae,true_and,and_true,implies_true]at hok hpre
 try dsimp only [T.den]at hok
 try dsimp only [T.den]at hpre
 unfold ir
 obtain ⟨f0,f1,g0,g1⟩:=hpre
 have hl:=hok.1
 rw [fy]at hl
 simp only [bz,aqp]
 refine ca (fun (q:brl)=>0<=q.1.1/\q.1.1<=s.length/\ann (ad7 f.1 f.2.1 f.2.2.1 f.2.2.2.1) s 0=ann (ad7 f.1 f.2.1 f.2.2.1 f.2.2.2.1) (s.drop q.1.1.toNat) q.1.1) (fun (q:brl)=>(s.length - q.1.1).toNat) ?_ ⟨by simp,by simp,rfl⟩
 rintro ⟨⟨i,_⟩,_⟩ next ⟨i0,i1,hq⟩ hnx
 intros
 try dsimp only at i0 i1 hq hnx ⊢
 rw [hq]
 refine bf (fun hi=>⟨i0,hi,f0,f1,g0,g1,?_⟩) (fun hi=>?_)
 ·rw [bnm i0 hi]
  refine be (fun h=>?_) (fun h=>⟨by rw [au];(try dsimp only);omega,hnx _ ⟨by dsimp only;omega,by dsimp only;omega,?_⟩ (by dsimp only;omega)⟩)
  ·rw [if_pos h]
  ·try dsimp only
   rw [hq,bnm i0 hi,if_neg (by rw [h];decide)]
 ·rw [acf s (by omega)]
  rfl
theorem vg:dg Try.prog 89 bz:=
 d7 (Φ:=lkp [(90,gp)]) (am ah3 ba) bo (by kernel_rfl) (fn:=Try.f89) (c:=aj Try.f89) (by kernel_rfl) (by kernel_rfl) (by kernel_rfl) bz rfl nz (aw []) (by kernel_rfl) (by kernel_rfl) vp (by decide) (fun x K=>ir x.1 x.2.1 K) vv (fun x h1 h2=>wh x.1 x.2.1 h1 h2)
structure RoutsR (l:List eq):Prop where
 n:l.length<=40
 e:∀ p ∈ l,p.2.length<=42
def zr (l:List eq) (f g:Int):Int:=aqp l l f g ((yv l f).2++(yv l g).2)
def jh:Ct:=⟨[(.int .i64),(.int .i64),(.pt (.sl sv))],[false,false,false],fun x=>[0<=x.1,x.1 < x.2.2.1.length,0<=x.2.1,x.2.1 < x.2.2.1.length,RoutsR x.2.2.1],[(false,(.fz (.int .i64)))],fun x=>(zr x.2.2.1 x.1 x.2.1,()),false,none⟩
def ab8:FuncId->Option Ct:=lkp [(69,ou),(89,bz)]
def sd (f:Int) (g:Int) (list:List eq) (K:Int×Unit->Prop):Prop:=(((0<=f)/\((f < ((list.length:Nat):Int))/\(((List.length (List.getD list f.toNat ((0,0),[])).2)<=1099511627776)/\((0<=g)/\((g < ((list.length:Nat):Int))/\((fg (List.length (List.getD list f.toNat ((0,0),[])).2) (List.length (List.getD list g.toNat ((0,0),[])).2) 8)/\((0<=f)/\((f < ((list.length:Nat):Int))/\((0<=g)/\((g < ((list.length:Nat):Int))/\(K ((aqp list list f g ((List.getD list f.toNat ((0,0),[])).2++(List.getD list g.toNat ((0,0),[])).2)),()))))))))))))/\((0<=f)/\((f < ((list.length:Nat):Int))/\(((List.length (List.getD list f.toNat ((0,0),[])).2)<=1099511627776)/\((0<=g)/\((g < ((list.length:Nat):Int))/\((fg (List.length (List.getD list f.toNat ((0,0),[])).2) (List.length (List.getD list g.toNat ((0,0),[])).2) 8)/\((0<=f)/\((f < ((list.length:Nat):Int))/\((0<=g)/\((g < ((list.length:Nat):Int))/\(K ((aqp list list f g ((List.getD list f.toNat ((0,0),[])).2++(List.getD list g.toNat ((0,0),[])).2)),())))))))))))))
theorem ali (x:bi jh.args) (K:Int×Unit->Prop):evF tab ab8 (aw [(1,999998)]) Try.f88 (aj Try.f88) .n jh x K=sd x.1 x.2.1 x.2.2.1 K:=by kernel_rfl
theorem amo:okC Try.f88.ntmps (aw [(1,999998)]) (aj Try.f88)=true:=by kernel_rfl
theorem amh (f:Int) (g:Int) (list:List eq) (hok:ae (okL jh.args (f,g,list,()))) (hpre:ae (jh.pre (f,g,list,()))):sd f g list (fun r=>r=jh.res (f,g,list,())):=by
 simp only [jh,okL,T.oks,T.ok,ap,ae,true_and,and_true,implies_true]at hok hpre
 try dsimp only [T.den]at hok
 try dsimp only [T.den]at hpre
 unfold sd
 obtain ⟨f0,f1,g0,g1,hr⟩:=hpre
 have h1:=hr.e _ (gf list ((0,0),[]) f0 f1)
 have h2:=hr.e _ (gf list ((0,0),[]) g0 g1)
 have key:((0<=f)/\((f < (list.length:Int))/\(((list.getD f.toNat ((0,0),[])).2.length<=1099511627776)/\((0<=g)/\((g < (list.length:Int))/\((fg (list.getD f.toNat ((0,0),[])).2.length (list.getD g.toNat ((0,0),[])).2.length 8)/\((0<=f)/\((f < (list.length:Int))/\((0<=g)/\(g < (list.length:Int))))))))))):=
  ⟨f0,f1,by omega,g0,g1,cw (by omega),f0,f1,g0,g1⟩
 obtain ⟨k1,k2,k3,k4,k5,k6,k7,k8,k9,k10⟩:=key
 exact ⟨⟨k1,k2,k3,k4,k5,k6,k7,k8,k9,k10,rfl⟩,k1,k2,k3,k4,k5,k6,k7,k8,k9,k10,rfl⟩
theorem aky:dg Try.prog 88 jh:=
 d7 (Φ:=ab8) (am aom (am vg ba)) bo (by kernel_rfl) (fn:=Try.f88) (c:=aj Try.f88) (by kernel_rfl) (by kernel_rfl) (by kernel_rfl) jh rfl .n (aw [(1,999998)]) (by kernel_rfl) (by kernel_rfl) amo (by decide) (fun x K=>sd x.1 x.2.1 x.2.2.1 K) ali (fun x h1 h2=>amh x.1 x.2.1 x.2.2.1 h1 h2)
structure TabPR (c:ac) (l:List eq):Prop where
 n:c.2.1.length=l.length
 t:c.2.2.1.length=l.length
 r:RoutsR l
def eb:Wt:=⟨(.pt ku),[(.fn 88 (.p (.pt (.sl sv)) .u))],[false],fun x y=>[TabPR x y.1.1],fun x y=>(x.1,x.2.1,x.2.2.1,x.2.2.2.1,af5 x (zr y.1.1)),[],fun x y=>(())⟩
def zg:Ct:=ac8 eb
def yg:Ann:=(.s .n (.s .n (.s .n (.l [(0,(.ad 1000000 [.de])),(19,(.d (.int .i64)))] [(1000000,(.pt (.p (.fz (.int .i64)) (.p (.sl (.fz (.int .i64))) (.p (.sl (.fz (.int .i64))) (.p (.sl (.fz (.int .i64))) (.sl (.sl (.fz (.int .i64))))))))))] [1,4,18] (.s .n (.s .n (.s (.s .n (.s .n (.s .n (.l [(0,(.ad 1000000 [.de])),(38,(.d (.int .i64)))] [(1000000,(.pt (.p (.fz (.int .i64)) (.p (.sl (.fz (.int .i64))) (.p (.sl (.fz (.int .i64))) (.p (.sl (.fz (.int .i64))) (.sl (.sl (.fz (.int .i64))))))))))] [1,4,5,18,19,37] (.s .n (.s .n (.s (.s .n (.s .n (.s .n (.j [(0,(.ad 1000000 [.de]))] [(1000000,(.pt (.p (.fz (.int .i64)) (.p (.sl (.fz (.int .i64))) (.p (.sl (.fz (.int .i64))) (.p (.sl (.fz (.int .i64))) (.sl (.sl (.fz (.int .i64))))))))))] [1,4,5,18,19,37,38] .n)))) .n))))))) .n)))))))
def yd:FuncId->Option Ct:=lkp [(88,jh),(40,e9)]
def sq (c:ac) (composite:(List eq)×Unit) (K:ac->(Unit)->Prop):Prop:=((0<=((c.2.1.length:Nat):Int))/\((((c.2.1.length:Nat):Int)<=((c.2.1.length:Nat):Int))/\((((c.2.1.length:Nat):Int)<=((140737488355328:Nat):Int))/\(((((c.2.1.length:Nat):Int) * ((24:Nat):Int))<=((140737488355328:Nat):Int))/\(bu (S:=(brh×(brb×Unit))) (fun s=>(fun next=>((inK .i64 s.1.2.1)->((inK .i64 s.2.1.1)->((T.ok (.sl (.int .i64)) s.2.1.2.1)->((T.ok (.sl (.int .i64)) s.2.1.2.2.1)->((T.ok (.sl (.int .i64)) s.2.1.2.2.2.1)->((T.ok (.sl (.sl (.int .i64))) s.2.1.2.2.2.2)->(cnd (decide (s.1.2.1 < (((List.length (List.replicate (Int.toNat ((c.2.1.length:Nat):Int)) ([]:List Int))):Nat):Int))) ((0<=((c.2.1.length:Nat):Int))/\((((c.2.1.length:Nat):Int)<=((c.2.1.length:Nat):Int))/\((((c.2.1.length:Nat):Int)<=((140737488355328:Nat):Int))/\(((((c.2.1.length:Nat):Int) * ((8:Nat):Int))<=((140737488355328:Nat):Int))/\((0<=s.1.2.1)/\((s.1.2.1 < ((s.2.1.2.2.2.2.length:Nat):Int))/\((0<=s.1.2.1)/\((s.1.2.1 < (((List.length (List.set s.2.1.2.2.2.2 s.1.2.1.toNat (List.replicate (Int.toNat ((c.2.1.length:Nat):Int)) (0:Int)))):Nat):Int))/\(bu (S:=(brh×(brb×Unit))) (fun s1=>(fun next1=>((inK .i64 s1.1.2.1)->((inK .i64 s1.2.1.1)->((T.ok (.sl (.int .i64)) s1.2.1.2.1)->((T.ok (.sl (.int .i64)) s1.2.1.2.2.1)->((T.ok (.sl (.int .i64)) s1.2.1.2.2.2.1)->((T.ok (.sl (.sl (.int .i64))) s1.2.1.2.2.2.2)->(cnd (decide (s1.1.2.1 < (((List.length (List.getD (List.set s.2.1.2.2.2.2 s.1.2.1.toNat (List.replicate (Int.toNat ((c.2.1.length:Nat):Int)) (0:Int))) s.1.2.1.toNat [])):Nat):Int))) ((0<=s.1.2.1)/\((s.1.2.1 < ((s1.2.1.2.2.2.2.length:Nat):Int))/\((0<=s1.1.2.1)/\((s1.1.2.1 < (((List.length (List.getD s1.2.1.2.2.2.2 s.1.2.1.toNat [])):Nat):Int))/\((0<=s.1.2.1)/\((s.1.2.1 < ((s1.2.1.2.2.1.length:Nat):Int))/\((0<=s1.1.2.1)/\((s1.1.2.1 < ((s1.2.1.2.1.length:Nat):Int))/\(fk (S:=((Unit×Unit)×(brb×Unit))) (fun s2=>((inK .i64 s2.2.1.1)->((T.ok (.sl (.int .i64)) s2.2.1.2.1)->((T.ok (.sl (.int .i64)) s2.2.1.2.2.1)->((T.ok (.sl (.int .i64)) s2.2.1.2.2.2.1)->((T.ok (.sl (.sl (.int .i64))) s2.2.1.2.2.2.2)->((inK .i64 (s1.1.2.1+1))/\(next1 (((),((s1.1.2.1+1),())),(s2.2.1,())))))))))) (fun k=>(cnd ((List.getD s1.2.1.2.2.1 s.1.2.1.toNat 0) == (List.getD s1.2.1.2.1 s1.1.2.1.toNat 0)) ((0<=s.1.2.1)/\((s.1.2.1 < (((List.length (List.set s1.2.1.2.2.2.2 s.1.2.1.toNat (List.set (List.getD s1.2.1.2.2.2.2 s.1.2.1.toNat []) s1.1.2.1.toNat (-1)))):Nat):Int))/\((0<=s.1.2.1)/\((s.1.2.1 < ((composite.1.length:Nat):Int))/\((0<=s1.1.2.1)/\((s1.1.2.1 < ((composite.1.length:Nat):Int))/\((RoutsR composite.1)/\((0<=s1.1.2.1)/\((s1.1.2.1 < (((List.length (List.getD (List.set s1.2.1.2.2.2.2 s.1.2.1.toNat (List.set (List.getD s1.2.1.2.2.2.2 s.1.2.1.toNat []) s1.1.2.1.toNat (-1))) s.1.2.1.toNat [])):Nat):Int))/\(k (((),()),((s1.2.1.1,(s1.2.1.2.1,(s1.2.1.2.2.1,(s1.2.1.2.2.2.1,(List.set (List.set s1.2.1.2.2.2.2 s.1.2.1.toNat (List.set (List.getD s1.2.1.2.2.2.2 s.1.2.1.toNat []) s1.1.2.1.toNat (-1))) s.1.2.1.toNat (List.set (List.getD (List.set s1.2.1.2.2.2.2 s.1.2.1.toNat (List.set (List.getD s1.2.1.2.2.2.2 s.1.2.1.toNat []) s1.1.2.1.toNat (-1))) s.1.2.1.toNat []) s1.1.2.1.toNat (zr composite.1 s.1.2.1 s1.1.2.1))))))),())))))))))))) (k (((),()),((s1.2.1.1,(s1.2.1.2.1,(s1.2.1.2.2.1,(s1.2.1.2.2.2.1,(List.set s1.2.1.2.2.2.2 s.1.2.1.toNat (List.set (List.getD s1.2.1.2.2.2.2 s.1.2.1.toNat []) s1.1.2.1.toNat (-1))))))),())))))))))))))) ((inK .i64 (s.1.2.1+1))/\(next (((),((s.1.2.1+1),())),(s1.2.1,()))))))))))))) (((),(0,())),((s.2.1.1,(s.2.1.2.1,(s.2.1.2.2.1,(s.2.1.2.2.2.1,(List.set s.2.1.2.2.2.2 s.1.2.1.toNat (List.replicate (Int.toNat ((c.2.1.length:Nat):Int)) (0:Int))))))),()))))))))))) (K s.2.1 ())))))))))) (((),(0,())),((c.1,(c.2.1,(c.2.2.1,(c.2.2.2.1,(List.replicate (Int.toNat ((c.2.1.length:Nat):Int)) ([]:List Int)))))),())))))))
theorem agl (x:eb.o.strip.den) (y:bi eb.as) (K:ac->(Unit)->Prop):pc tab yd (aw [(5,507),(10,14),(11,512)]) Try.f87 (aj Try.f87) yg eb x y K=sq x y.1 K:=by kernel_rfl
theorem agp:okC Try.f87.ntmps (aw [(5,507),(10,14),(11,512)]) (aj Try.f87)=true:=by kernel_rfl
theorem agt (c:ac) (composite:(List eq)×Unit) (hok:ae (eb.o.strip.oks c)) (hok2:ae (okL eb.as (composite,()))) (hpre:ae (eb.pre c (composite,()))):sq c composite (fun z r=>z=eb.new c (composite,())/\r=eb.res c (composite,())):=by
 simp only [eb,O.strip,okL,T.oks,T.ok,ap,ae,true_and,and_true,implies_true]at hok hok2 hpre
 try dsimp only [T.den]at hok
 try dsimp only [T.den]at hok2
 try dsimp only [T.den]at hpre
 unfold sq
 obtain ⟨l,u⟩:=composite
 have P:TabPR c l:=hpre
 have hln:=P.n
 have hmm:c.2.1.length<=40:=by rw [hln];exact P.r.n
 have hlt:=P.t
 have hnew:∀ z,z=af5 c (zr l)->(c.1,c.2.1,c.2.2.1,c.2.2.2.1,z)=(c.1,c.2.1,c.2.2.1,c.2.2.2.1,af5 c (zr l)):=fun z h=>by rw [h]
 clear hok hpre
 try dsimp only
 have hR:af5 c (zr l)=ce c.2.1.length fun e=>ce c.2.1.length (aqn c (zr l) e):=rfl
 refine ⟨by omega,by omega,by omega,by omega,?_⟩
 simp only [Int.toNat_natCast,al4,c6]
 generalize hn:c.2.1.length=n at *
 generalize hF:aqn c (zr l)=F at *
 refine uq (fun i=>(c.1,c.2.1,c.2.2.1,c.2.2.2.1,ce n fun e=>if e < i then ce n (F e)else [])) (n:=n) (by omega) (congrArg (fun z=>(c.1,c.2.1,c.2.2.1,c.2.2.2.1,z)) (ep fun e h0 _=>by rw [if_neg (by omega)])) ?_ ?_
 ·intro i next i0 i1 hnx _ _ _ _ _ _
  try dsimp only
  refine bf (fun _=>⟨by omega,by omega,by omega,by omega,i0,by rw [c6];exact i1,i0,by rw [List.length_set,c6];exact i1,?_⟩) (fun h=>absurd i1 h)
  rw [bq2 i0 i1,awy i0 i1,c6]
  refine uq (fun j=>(c.1,c.2.1,c.2.2.1,c.2.2.2.1,tbT F n i j)) (n:=n) (by omega) rfl ?_ ?_
  ·intro j next2 j0 j1 hn2 _ _ _ _ _ _
   try dsimp only
   have hr:((tbT F n i j).getD i.toNat []).length=n:=by rw [awy i0 i1,c6]
   have hA:i.toNat < (tbT F n i j).length:=by rw [awi];omega
   have hs2:=@bjj (tbT F n i j) i.toNat j.toNat (-1) (F i j) hA
   have hs1:=@bql F n i j i0 i1 j0 j1
   have hrow:(((tbT F n i j).set i.toNat (((tbT F n i j).getD i.toNat []).set j.toNat (-1))).getD i.toNat []).length=n:=by rw [atn _ _ _ _ _ hA,if_pos rfl,List.length_set,hr]
   refine bf (fun _=>⟨i0,by rw [awi];exact i1,j0,by rw [hr];exact j1,i0,by omega,j0,by omega,?_⟩) (fun h=>absurd j1 h)
   refine dn (fun s2=>s2.2.1=(c.1,c.2.1,c.2.2.1,c.2.2.2.1,tbT F n i (j+1))) (fun s2 hs _ _ _ _ _=>⟨by rw [au];(try dsimp only);omega,by rw [hs];exact hn2⟩) (fun k hk=>be (fun he=>?_) (fun he=>hk _ ?_))
   ·rw [beq_iff_eq]at he
    have hv:zr l i j=F i j:=by rw [← hF];unfold aqn;rw [if_pos he]
    refine ⟨i0,by rw [List.length_set,awi];exact i1,i0,by omega,j0,by omega,P.r,j0,by rw [hrow];exact j1,hk _ ?_⟩
    try dsimp only
    rw [hv,hs2,hs1]
   ·have hv:F i j=-1:=by rw [← hF];unfold aqn;rw [if_neg (by intro h;rw [h]at he;simp at he)]
    try dsimp only
    rw [← hv,hs1]
  ·intro next2 _ _ _ _ _ _
   try dsimp only
   refine bf (fun h=>absurd h (Int.lt_irrefl _)) (fun _=>⟨by rw [au];(try dsimp only);omega,?_⟩)
   rw [bqr];exact hnx
 ·intro next _ _ _ _ _ _
  try dsimp only
  refine bf (fun h=>absurd h (Int.lt_irrefl _)) (fun _=>⟨hnew _ ?_,rfl⟩)
  rw [hR];exact ep fun e _ e1=>by rw [if_pos e1]
theorem agb:dg Try.prog 87 zg:=
 acx (Φ:=yd) (am aky (am nv ba)) bo (by kernel_rfl) (fn:=Try.f87) (c:=aj Try.f87) (by kernel_rfl) (by kernel_rfl) (by kernel_rfl) eb yg (aw [(5,507),(10,14),(11,512)]) (by kernel_rfl) (by kernel_rfl) agp (by decide) (by kernel_rfl) (fun x y h1 h2 h3=>(agl x y _).mpr (agt x y.1 h1 h2 h3))
def my:Ct:=⟨[(.int .i64),(.int .i64),(.int .i64)],[false,false,false],fun x=>[],[(false,(.fz .bool))],fun x=>(inR x.1 x.2.1 x.2.2.1,()),false,none⟩
def adw (n:Int) (low:Int) (high:Int) (K:Bool×Unit->Prop):Prop:=(K (((decide (low<=n)) && (decide (n<=high))),()))
theorem ba3 (x:bi my.args) (K:Bool×Unit->Prop):evF tab (lkp []) (aw []) Try.f91 (aj Try.f91) .n my x K=adw x.1 x.2.1 x.2.2.1 K:=by kernel_rfl
theorem bd4:okC Try.f91.ntmps (aw []) (aj Try.f91)=true:=by kernel_rfl
theorem bba (n:Int) (low:Int) (high:Int) (hok:ae (okL my.args (n,low,high,()))) (hpre:ae (my.pre (n,low,high,()))):adw n low high (fun r=>r=my.res (n,low,high,())):=by
 simp only [my,okL,T.oks,T.ok,ap,ae,true_and,and_true,implies_true]at hok hpre
 try dsimp only [T.den]at hok
 try dsimp only [T.den]at hpre
 unfold adw
 grind [cnd,fy,au,my,inR]
theorem aol:dg Try.prog 91 my:=
 d7 (Φ:=lkp []) ba bo (by kernel_rfl) (fn:=Try.f91) (c:=aj Try.f91) (by kernel_rfl) (by kernel_rfl) (by kernel_rfl) my rfl .n (aw []) (by kernel_rfl) (by kernel_rfl) bd4 (by decide) (fun x K=>adw x.1 x.2.1 x.2.2.1 K) ba3 (fun x h1 h2=>bba x.1 x.2.1 x.2.2.1 h1 h2)
def iz:Ct:=⟨[(.int .i64),(.sl (.int .i64))],[false,false],fun x=>[],[(false,(.fz .bool))],fun x=>(bn x.2.1 x.1,()),false,none⟩
def alh:Ann:=(.s .n (.s (.s .n (.l [(5,(.d (.int .i64)))] [] [0,1] .n)) .n))
def acn (n:Int) (f:List Int) (K:Bool×Unit->Prop):Prop:=(bu (S:=brl) (fun s=>(fun next=>((inK .i64 s.1.1)->(cnd (decide (s.1.1 < ((f.length:Nat):Int))) ((0<=s.1.1)/\((s.1.1 < ((f.length:Nat):Int))/\((((decide ((List.getD f s.1.1.toNat 0) < 0))=false)->((s.1.1 < ((f.length:Nat):Int))/\(0<=s.1.1)))/\(cnd ((decide ((List.getD f s.1.1.toNat 0) < 0)) || (decide (n<=(List.getD f s.1.1.toNat 0)))) (K (false,())) ((inK .i64 (s.1.1+1))/\(next (((s.1.1+1),()),()))))))) (K (true,())))))) ((0,()),()))
theorem bal (x:bi iz.args) (K:Bool×Unit->Prop):evF tab (lkp []) (aw []) Try.f42 (aj Try.f42) alh iz x K=acn x.1 x.2.1 K:=by kernel_rfl
theorem az9:okC Try.f42.ntmps (aw []) (aj Try.f42)=true:=by kernel_rfl
theorem az6 (n:Int) (f:List Int) (hok:ae (okL iz.args (n,f,()))) (hpre:ae (iz.pre (n,f,()))):acn n f (fun r=>r=iz.res (n,f,())):=by
 simp only [iz,okL,T.oks,T.ok,ap,ae,true_and,and_true,implies_true]at hok hpre
 try dsimp only [T.den]at hok
 try dsimp only [T.den]at hpre
 unfold acn
 refine ca (fun (s:brl)=>0<=s.1.1/\s.1.1<=f.length/\bn f n=bn (f.drop s.1.1.toNat) n) (fun (s:brl)=>(f.length - s.1.1).toNat) ?_ (by simp)
 rintro ⟨⟨i,_⟩,_⟩ next ⟨h0,h1,h2⟩ hn hin
 simp only at h0 h1 h2 hn ⊢
 refine bf (fun hc=>?_) (fun hc=>?_)
 ·rw [aay f 0 h0 hc]at h2
  simp only [bn,List.all_cons]at h2
  grind [cnd,fy,au,iz,bn,inR]
 ·rw [acf f (by omega)]at h2
  grind [cnd,fy,au,iz,bn]
theorem xl:dg Try.prog 42 iz:=
 d7 (Φ:=lkp []) ba bo (by kernel_rfl) (fn:=Try.f42) (c:=aj Try.f42) (by kernel_rfl) (by kernel_rfl) (by kernel_rfl) iz rfl alh (aw []) (by kernel_rfl) (by kernel_rfl) az9 (by decide) (fun x K=>acn x.1 x.2.1 K) bal (fun x h1 h2=>az6 x.1 x.2.1 h1 h2)
theorem bc1 {a b:List Int} {k l:Nat} {i j:Int} (h:k<=l) (hr:fb a b k i j=true):fb a b l i j=true:=by
 induction l with
 | zero=>rw [show k=0 by omega]at hr;exact hr
 | succ l ih=>
  by_cases e:k=l+1
  ·rw [← e];exact hr
  ·rw [fb,ih (by omega)];simp
theorem ban {a b:List Int}:∀ (k:Nat) (m i j:Int),0<=m->m < k->fb a b k i m=true->fb a b k m j=true->fb a b k i j=true
 | 0,m,i,j,m0,m1,_,_=>by omega
 | k+1,m,i,j,m0,m1,h1,h2=>by
  have ih:=ban (a:=a) (b:=b) k
  rw [fb,Bool.or_eq_true,Bool.and_eq_true]at h1 h2 ⊢
  by_cases hm:m=k
  ·subst hm
   have g1:fb a b k i k=true:=by rcases h1 with h | h;exact h;exact h.1
   have g2:fb a b k k j=true:=by rcases h2 with h | h;exact h;exact h.2
   exact .inr ⟨g1,g2⟩
  ·have hmk:m < k:=by omega
   rcases h1 with h1 | h1 <;> rcases h2 with h2 | h2
   ·exact .inl (ih m i j m0 hmk h1 h2)
   ·exact .inr ⟨ih m i k m0 hmk h1 h2.1,h2.2⟩
   ·exact .inr ⟨h1.1,ih m k j m0 hmk h1.2 h2⟩
   ·exact .inr ⟨h1.1,h2.2⟩
theorem att {a b:List Int} {N:Nat}:∀ (k:Nat) (i j:Int),k<=N->fb a b k i j=true->∃ u,bmr a b u j=true/\(u=i\/fb a b N i u=true)
 | 0,i,j,_,h=>⟨i,h,.inl rfl⟩
 | k+1,i,j,hk,h=>by
  rw [fb,Bool.or_eq_true,Bool.and_eq_true]at h
  rcases h with h | ⟨h1,h2⟩
  ·exact att k i j (by omega) h
  ·obtain ⟨u,u1,u2⟩:=att (N:=N) k k j (by omega) h2
   have hik:fb a b N i k=true:=bc1 (k:=k) (l:=N) (by omega) h1
   rcases u2 with rfl | u2
   ·exact ⟨_,u1,.inr hik⟩
   ·exact ⟨u,u1,.inr (ban N k i u (by omega) (by omega) hik u2)⟩
def agy:Nat->(Int->Bool)->Nat
 | 0,_=>0
 | n+1,p=>agy n p+if p n=true then 1 else 0
theorem bjm {p:Int->Bool}:∀ n:Nat,agy n p<=n
 | 0=>Nat.le_refl _
 | n+1=>by have:=@bjm p n;rw [agy];split <;> omega
theorem bbi {p q:Int->Bool}:∀ n:Nat,(∀ i:Int,0<=i->i < n->p i=true->q i=true)->agy n p<=agy n q
 | 0,_=>Nat.le_refl _
 | n+1,h=>by
  have ih:=@bbi p q n fun i h0 h1=>h i h0 (by omega)
  have hn:=h n (by omega) (by omega)
  rw [agy,agy]
  by_cases hp:p n=true
  ·rw [if_pos hp,if_pos (hn hp)];omega
  ·rw [if_neg hp];split <;> omega
theorem bbv {p q:Int->Bool} {u:Int}:∀ n:Nat,(∀ i:Int,0<=i->i < n->p i=true->q i=true)->0<=u->u < n->q u=true->p u=false->agy n p+1<=agy n q
 | 0,_,u0,u1,_,_=>by omega
 | n+1,h,u0,u1,hq,hp=>by
  have hn:=h n (by omega) (by omega)
  rw [agy,agy]
  by_cases e:u=n
  ·have hm:=@bbi p q n fun i h0 h1=>h i h0 (by omega)
   rw [← e,hq,hp];simp;omega
  ·have ih:=@bbv p q u n (fun i h0 h1=>h i h0 (by omega)) u0 (by omega) hq hp
   by_cases hp':p n=true
   ·rw [if_pos hp',if_pos (hn hp')];omega
   ·rw [if_neg hp'];split <;> omega
theorem bqf (x y:Int):x<=mxR x y/\y<=mxR x y/\(mxR x y=x\/mxR x y=y):=by
 unfold mxR
 split <;> omega
structure CycI (N:Nat) (a b:List Int) (k e:Int) (L:List Int):Prop where
 ln:L.length=N
 bd:∀ x:Int,0<=x->x < N->0<=L.getD x.toNat 0/\L.getD x.toNat 0<=k * 140737488355328+e
 up:y9 N a b=false->∀ x:Int,0<=x->x < N->L.getD x.toNat 0<=agy N (fun i=>fb a b N i x)
 lo:∀ x:Int,0<=x->x < N->fb a b N x x=true->k<=L.getD x.toNat 0
 hi:∀ q:Int,0<=q->q < e->fb a b N (a.getD q.toNat 0) (a.getD q.toNat 0)=true->k+1<=L.getD (b.getD q.toNat 0).toNat 0
theorem blj {N:Nat} {a b:List Int} {k e:Int} {L:List Int} (wa:bn a N=true) (wb:bn b N=true) (hl:b.length=a.length) (I:CycI N a b k e L) (e0:0<=e) (e1:e < a.length) :
  CycI N a b k (e+1) (L.set (b.getD e.toNat 0).toNat (mxR (L.getD (b.getD e.toNat 0).toNat 0) (L.getD (a.getD e.toNat 0).toNat 0+1))):=by
 have ha:=io.1 wa e e0 e1
 have hb:=io.1 wb e e0 (by omega)
 obtain ⟨m1,m2,m3⟩:=bqf (L.getD (b.getD e.toNat 0).toNat 0) (L.getD (a.getD e.toNat 0).toNat 0+1)
 generalize mxR (L.getD (b.getD e.toNat 0).toNat 0) (L.getD (a.getD e.toNat 0).toNat 0+1)=v at *
 have hg:∀ x:Int,0<=x->x < N->(L.set (b.getD e.toNat 0).toNat v).getD x.toNat 0=if x=b.getD e.toNat 0 then v else L.getD x.toNat 0:=fun x x0 x1=>by
  rw [atn _ _ _ _ _ (by rw [I.ln];omega)]
  by_cases h:x=b.getD e.toNat 0
  ·rw [if_pos (by omega),if_pos h]
  ·rw [if_neg (by omega),if_neg h]
 have hedge:bmr a b (a.getD e.toNat 0) (b.getD e.toNat 0)=true:=wo.2 ⟨e,e0,e1,by simp⟩
 have hR:fb a b N (a.getD e.toNat 0) (b.getD e.toNat 0)=true:=bc1 (Nat.zero_le _) hedge
 refine ⟨by rw [List.length_set];exact I.ln,fun x x0 x1=>?_,fun hc x x0 x1=>?_,fun x x0 x1 hx=>?_,fun q q0 q1 hq=>?_⟩
 ·rw [hg x x0 x1]
  have h1:=I.bd x x0 x1
  have h2:=I.bd _ ha.1 ha.2
  have h3:=I.bd _ hb.1 hb.2
  split <;> omega
 ·rw [hg x x0 x1]
  have h1:=I.up hc x x0 x1
  split
  ·rename_i hxe
   have h2:=I.up hc _ ha.1 ha.2
   have hno:fb a b N (a.getD e.toNat 0) (a.getD e.toNat 0)=false:=by
    cases hr:fb a b N (a.getD e.toNat 0) (a.getD e.toNat 0)with
    | false=>rfl
    | true=>
     have:y9 N a b=true:=wo.2 ⟨_,ha.1,by omega,hr⟩
     rw [this]at hc;cases hc
   have hlt:=@bbv (fun i=>fb a b N i (a.getD e.toNat 0)) (fun i=>fb a b N i x) (a.getD e.toNat 0) N (fun i _ _ hi=>ban N _ i x ha.1 ha.2 hi (by rw [hxe];exact hR)) ha.1 ha.2 (by rw [hxe];exact hR) hno
   rw [← hxe]at m3
   omega
  ·exact h1
 ·rw [hg x x0 x1]
  have h1:=I.lo x x0 x1 hx
  split
  ·rename_i hxe;rw [← hxe]at m1;omega
  ·exact h1
 ·by_cases hqe:q=e
  ·subst hqe
   rw [hg _ hb.1 hb.2,if_pos rfl]
   have:=I.lo _ ha.1 ha.2 hq
   omega
  ·have h1:=I.hi q q0 (by omega) hq
   have hbq:=io.1 wb q q0 (by omega)
   rw [hg _ hbq.1 hbq.2]
   split
   ·rename_i hxe;rw [← hxe]at m1;omega
   ·exact h1
theorem bja {N:Nat} {a b:List Int} {k:Int} {L:List Int} (wa:bn a N=true) (hm:a.length<=140737488355328) (I:CycI N a b k a.length L):CycI N a b (k+1) 0 L:=by
 refine ⟨I.ln,fun x x0 x1=>?_,I.up,fun x x0 x1 hx=>?_,fun q q0 q1=>by omega⟩
 ·have:=I.bd x x0 x1;omega
 ·obtain ⟨u,u1,u2⟩:=att N x x (Nat.le_refl _) hx
  obtain ⟨q,q0,q1,hq⟩:=wo.1 u1
  simp only [Bool.and_eq_true,beq_iff_eq]at hq
  have ha:=io.1 wa q q0 q1
  rw [hq.1]at ha
  have hux:fb a b N u x=true:=bc1 (Nat.zero_le _) u1
  have huu:fb a b N u u=true:=by
   rcases u2 with rfl | u2
   ·exact hx
   ·exact ban N x u u x0 x1 hux u2
  have:=I.hi q q0 q1 (by rw [hq.1];exact huu)
  rw [hq.2]at this
  exact this
def jy:Ct:=⟨[(.int .i64),(.sl (.int .i64)),(.sl (.int .i64))],[false,false,false],fun x=>[0<=x.1,x.1<=8,bn x.2.1 x.1=true,bn x.2.2.1 x.1=true,x.2.2.1.length=x.2.1.length],[(false,(.fz .bool))],fun x=>(y9 x.1 x.2.1 x.2.2.1,()),false,none⟩
def ag0:Ann:=(.s .n (.s .n (.s (.s .n (.l [(7,(.ref 12 [])),(8,(.d (.int .i64)))] [(12,(.sl (.fz (.int .i64))))] [0,1,2] (.s .n (.s (.s .n (.l [(7,(.ref 12 [])),(9,(.d (.int .i64)))] [(12,(.sl (.fz (.int .i64))))] [0,1,2,8] .n)) .n)))) (.s (.s .n (.l [(10,(.d (.int .i64)))] [] [0,7] .n)) .n))))
def zb (n:Int) (from_:List Int) (to:List Int) (K:Bool×Unit->Prop):Prop:=((0<=n)/\((n<=n)/\((n<=((140737488355328:Nat):Int))/\(((n * ((8:Nat):Int))<=((140737488355328:Nat):Int))/\(bu (S:=(brh×brg)) (fun s=>(fun next=>((inK .i64 s.1.2.1)->((T.ok (.sl (.int .i64)) s.2.1)->(cnd (decide (s.1.2.1<=n)) (bu (S:=(brh×brg)) (fun s1=>(fun next1=>((inK .i64 s1.1.2.1)->((T.ok (.sl (.int .i64)) s1.2.1)->(cnd (decide (s1.1.2.1 < ((from_.length:Nat):Int))) ((0<=s1.1.2.1)/\((s1.1.2.1 < ((to.length:Nat):Int))/\((0<=s1.1.2.1)/\((s1.1.2.1 < ((to.length:Nat):Int))/\((0<=(List.getD to s1.1.2.1.toNat 0))/\(((List.getD to s1.1.2.1.toNat 0) < ((s1.2.1.length:Nat):Int))/\((0<=s1.1.2.1)/\((s1.1.2.1 < ((from_.length:Nat):Int))/\((0<=(List.getD from_ s1.1.2.1.toNat 0))/\(((List.getD from_ s1.1.2.1.toNat 0) < ((s1.2.1.length:Nat):Int))/\((inK .i64 ((List.getD s1.2.1 (Int.toNat (List.getD from_ s1.1.2.1.toNat 0)) 0)+1))/\((0<=(List.getD to s1.1.2.1.toNat 0))/\(((List.getD to s1.1.2.1.toNat 0) < ((s1.2.1.length:Nat):Int))/\((inK .i64 (s1.1.2.1+1))/\(next1 (((),((s1.1.2.1+1),())),((List.set s1.2.1 (Int.toNat (List.getD to s1.1.2.1.toNat 0)) (mxR (List.getD s1.2.1 (Int.toNat (List.getD to s1.1.2.1.toNat 0)) 0) ((List.getD s1.2.1 (Int.toNat (List.getD from_ s1.1.2.1.toNat 0)) 0)+1))),()))))))))))))))))) ((inK .i64 (s.1.2.1+1))/\(next (((),((s.1.2.1+1),())),(s1.2.1,()))))))))) (((),(0,())),(s.2.1,()))) (bu (S:=brl) (fun s1=>(fun next1=>((inK .i64 s1.1.1)->(cnd (decide (s1.1.1 < n)) ((0<=s1.1.1)/\((s1.1.1 < ((s.2.1.length:Nat):Int))/\((inK .i64 (n - 1))/\(cnd (decide ((n - 1) < (List.getD s.2.1 s1.1.1.toNat 0))) (K (true,())) ((inK .i64 (s1.1.1+1))/\(next1 (((s1.1.1+1),()),()))))))) (K (false,())))))) ((0,()),()))))))) (((),(0,())),((List.replicate n.toNat (0:Int)),())))))))
theorem asa (x:bi jy.args) (K:Bool×Unit->Prop):evF tab (lkp []) (aw [(8,21)]) Try.f92 (aj Try.f92) ag0 jy x K=zb x.1 x.2.1 x.2.2.1 K:=by kernel_rfl
theorem as1:okC Try.f92.ntmps (aw [(8,21)]) (aj Try.f92)=true:=by kernel_rfl
theorem asl (n:Int) (from_:List Int) (to:List Int) (hok:ae (okL jy.args (n,from_,to,()))) (hpre:ae (jy.pre (n,from_,to,()))):zb n from_ to (fun r=>r=jy.res (n,from_,to,())):=by
 simp only [jy,okL,T.oks,T.ok,ap,ae,true_and,and_true,implies_true]at hok hpre
 try dsimp only [T.den]at hok
 try dsimp only [T.den]at hpre
 unfold zb
 obtain ⟨n0,n8,wf,wt,hl⟩:=hpre
 have hlf:from_.length<=140737488355328:=by simp only [fy]at hok;omega
 clear hok
 refine ⟨n0,by omega,by omega,by omega,?_⟩
 have hN:∃ N:Nat,n=N:=⟨n.toNat,by omega⟩
 obtain ⟨N,rfl⟩:=hN
 simp only [Int.toNat_natCast]
 have I0:CycI N from_ to 0 0 (List.replicate N 0):=by
  have hz:∀ x:Int,0<=x->x < N->(List.replicate N (0:Int)).getD x.toNat 0=0:=fun x x0 x1=>by rw [al4,uy x0 x1]
  exact ⟨by simp,fun x x0 x1=>by rw [hz x x0 x1];omega,fun _ x x0 x1=>by rw [hz x x0 x1];omega,fun x x0 x1 _=>by rw [hz x x0 x1];omega,fun q q0 q1=>by omega⟩
 refine ca (fun (s:(brh×brg))=>0<=s.1.2.1/\s.1.2.1<=(N:Int)+1/\CycI N from_ to s.1.2.1 0 s.2.1) (fun (s:(brh×brg))=>((N:Int)+1 - s.1.2.1).toNat) ?_ ⟨by simp,by dsimp only;omega,I0⟩
 rintro ⟨⟨_,k,_⟩,L,_⟩ next ⟨k0,k1,I⟩ hn _ _
 try dsimp only at k0 k1 I hn ⊢
 refine bf (fun hk=>?_) (fun hk=>?_)
 ·refine ca (fun (s:(brh×brg))=>0<=s.1.2.1/\s.1.2.1<=from_.length/\CycI N from_ to k s.1.2.1 s.2.1) (fun (s:(brh×brg))=>(from_.length - s.1.2.1).toNat) ?_ ⟨by simp,by simp,I⟩
  rintro ⟨⟨_,e,_⟩,L2,_⟩ next1 ⟨e0,e1,I2⟩ hn1 _ _
  try dsimp only at e0 e1 I2 hn1 ⊢
  have hln:=I2.ln
  refine bf (fun he=>?_) (fun he=>?_)
  ·have ha:=io.1 wf e e0 he
   have hb:=io.1 wt e e0 (by omega)
   have hbd:=I2.bd _ ha.1 ha.2
   exact ⟨e0,by omega,e0,by omega,hb.1,by omega,e0,he,ha.1,by omega,by rw [au];(try dsimp only);omega,hb.1,by omega,by rw [au];(try dsimp only);omega,hn1 _ ⟨by dsimp only;omega,by dsimp only;omega,blj wf wt hl I2 e0 he⟩ (by dsimp only;omega)⟩
  ·have ee:e=from_.length:=by omega
   subst ee
   exact ⟨by rw [au];(try dsimp only);omega,hn _ ⟨by dsimp only;omega,by dsimp only;omega,bja wf hlf I2⟩ (by dsimp only;omega)⟩
 ·have hln:=I.ln
  have kk:k=(N:Int)+1:=by omega
  refine nh (n:=N) (fun i=>∀ x:Int,0<=x->x < i->L.getD x.toNat 0<=(N:Int) - 1) (by omega) (by intro x x0 x1;omega) ?_ ?_
  ·intro i next1 i0 i1 hP hn1 _
   try dsimp only
   refine bf (fun _=>⟨i0,by omega,by rw [au];(try dsimp only);omega,bf (fun hd=>?_) (fun hd=>⟨by rw [au];(try dsimp only);omega,hn1 fun x x0 x1=>?_⟩)⟩) (fun h=>absurd i1 h)
   ·have:y9 N from_ to=true:=by
     cases hc:y9 N from_ to with
     | true=>rfl
     | false=>
      have h1:=I.up hc i i0 i1
      have hno:fb from_ to N i i=false:=by
       cases hr:fb from_ to N i i with
       | false=>rfl
       | true=>
        have:y9 N from_ to=true:=wo.2 ⟨i,i0,by omega,hr⟩
        rw [this]at hc;cases hc
      have h2:=@bbv (fun q=>fb from_ to N q i) (fun _=>true) i N (fun _ _ _ _=>rfl) i0 i1 rfl hno
      have h3:=@bjm (fun _=>true) N
      omega
    simp only [jy,this]
   ·by_cases hx:x=i
    ·subst hx;omega
    ·exact hP x x0 (by omega)
  ·intro next1 hP _
   try dsimp only
   refine bf (fun h=>absurd h (Int.lt_irrefl _)) (fun _=>?_)
   have:y9 N from_ to=false:=by
    cases hc:y9 N from_ to with
    | false=>rfl
    | true=>
     obtain ⟨i,i0,i1,hr⟩:=wo.1 hc
     have i1':i < (N:Int):=by omega
     have h1:=I.lo i i0 i1' hr
     have h2:=hP i i0 i1'
     omega
   simp only [jy,this]
theorem aqy:dg Try.prog 92 jy:=
 d7 (Φ:=lkp []) ba bo (by kernel_rfl) (fn:=Try.f92) (c:=aj Try.f92) (by kernel_rfl) (by kernel_rfl) (by kernel_rfl) jy rfl ag0 (aw [(8,21)]) (by kernel_rfl) (by kernel_rfl) as1 (by decide) (fun x K=>zb x.1 x.2.1 x.2.2.1 K) asa (fun x h1 h2=>asl x.1 x.2.1 x.2.2.1 h1 h2)
def afq (c:ac):ac×Int:=if (decide (c.1<=8) && decide ((c.2.1.length:Int)<=40))=true then (c,0)else (T.dflt bj,3)
def mg:Ct:=⟨[bj],[true],fun x=>[],[(true,(.fz bj)),(false,(.fz (.int .i64)))],fun x=>((afq x.1).1,(afq x.1).2,()),true,none⟩
def aba (c:ac) (K:ac×Int×Unit->Prop):Prop:=(cnd (!((decide (c.1<=8)) && (decide (((c.2.1.length:Nat):Int)<=40)))) (K ((0,([],([],([],[])))),(3,()))) (K (c,(0,()))))
theorem awz (x:bi mg.args) (K:ac×Int×Unit->Prop):evF tab (lkp [(107,kr)]) (aw []) Try.f93 (aj Try.f93) .n mg x K=aba x.1 K:=by kernel_rfl
theorem ayk:okC Try.f93.ntmps (aw []) (aj Try.f93)=true:=by kernel_rfl
theorem axd (c:ac) (hok:ae (okL mg.args (c,()))) (hpre:ae (mg.pre (c,()))):aba c (fun r=>r=mg.res (c,())):=by
 simp only [mg,okL,T.oks,T.ok,ap,ae,true_and,and_true,implies_true]at hok hpre
 try dsimp only [T.den]at hok
 try dsimp only [T.den]at hpre
 unfold aba
 simp only [mg,afq]
 refine be (fun hx=>?_) (fun hx=>?_)
 ·have h:¬ (decide (c.1<=8) && decide ((c.2.1.length:Int)<=40))=true:=by rw [Bool.not_eq_true']at hx;rw [hx];simp
  rw [if_neg h];rfl
 ·have h:(decide (c.1<=8) && decide ((c.2.1.length:Int)<=40))=true:=by rw [Bool.not_eq_false']at hx;exact hx
  rw [if_pos h]
theorem auo:dg Try.prog 93 mg:=
 d7 (Φ:=lkp [(107,kr)]) (am zz ba) bo (by kernel_rfl) (fn:=Try.f93) (c:=aj Try.f93) (by kernel_rfl) (by kernel_rfl) (by kernel_rfl) mg rfl .n (aw []) (by kernel_rfl) (by kernel_rfl) ayk (by decide) (fun x K=>aba x.1 K) awz (fun x h1 h2=>axd x.1 h1 h2)
def zu (n:Int) (fr to:List Int):ac×Int:=
 if fr.length=to.length then (if (inR n 0 8 && bn fr n && bn to n)=true then (if y9 n fr to=true then (T.dflt bj,5)else afq (nq n fr to))else (T.dflt bj,2))else (T.dflt bj,1)
def jj:Ct:=⟨[(.int .i64),(.sl (.int .i64)),(.sl (.int .i64))],[false,false,false],fun x=>[x.2.1.length<=1000000000],[(true,(.fz bj)),(false,(.fz (.int .i64)))],fun x=>((zu x.1 x.2.1 x.2.2.1).1,(zu x.1 x.2.1 x.2.2.1).2,()),true,none⟩
def adx:FuncId->Option Ct:=lkp [(91,my),(42,iz),(92,jy),(93,mg),(94,kx)]
def u7 (n:Int) (from_:List Int) (to:List Int) (K:ac×Int×Unit->Prop):Prop:=(cnd (((from_.length:Nat):Int) != ((to.length:Nat):Int)) (K ((0,([],([],([],[])))),(1,()))) (cnd (((!(inR n 0 8)) || (!(bn from_ n))) || (!(bn to n))) (K ((0,([],([],([],[])))),(2,()))) ((0<=n)/\((n<=8)/\(((bn from_ n)=true)/\(((bn to n)=true)/\((to.length=from_.length)/\(cnd (y9 n from_ to) (K ((0,([],([],([],[])))),(5,()))) ((0<=n)/\((n<=8)/\((to.length=from_.length)/\((from_.length<=1000000000)/\(K ((afq (nq n from_ to)).1,((afq (nq n from_ to)).2,())))))))))))))))
theorem aou (x:bi jj.args) (K:ac×Int×Unit->Prop):evF tab adx (aw []) Try.f33 (aj Try.f33) .n jj x K=u7 x.1 x.2.1 x.2.2.1 K:=by kernel_rfl
theorem aon:okC Try.f33.ntmps (aw []) (aj Try.f33)=true:=by kernel_rfl
theorem aor (n:Int) (from_:List Int) (to:List Int) (hok:ae (okL jj.args (n,from_,to,()))) (hpre:ae (jj.pre (n,from_,to,()))):u7 n from_ to (fun r=>r=jj.res (n,from_,to,())):=by
 simp only [jj,okL,T.oks,T.ok,ap,ae,true_and,and_true,implies_true]at hok hpre
 try dsimp only [T.den]at hok
 try dsimp only [T.den]at hpre
 unfold u7
 simp only [jj,zu]
 refine be (fun h=>?_) (fun h=>?_)
 ·have h1:¬ from_.length=to.length:=by
   intro e;rw [e]at h;simp at h
  rw [if_neg h1];rfl
 have h1:from_.length=to.length:=by
  have:=bne_eq_false_iff_eq.1 h
  omega
 rw [if_pos h1]
 refine be (fun h2=>?_) (fun h2=>?_)
 ·have h3:¬ (inR n 0 8 && bn from_ n && bn to n)=true:=by
   intro e
   simp only [Bool.and_eq_true]at e
   rw [e.1.1,e.1.2,e.2]at h2
   cases h2
  rw [if_neg h3];rfl
 have h3:(inR n 0 8 && bn from_ n && bn to n)=true:=by
  simp only [Bool.or_eq_false_iff,Bool.not_eq_false']at h2
  rw [h2.1.1,h2.1.2,h2.2];rfl
 rw [if_pos h3]
 simp only [Bool.and_eq_true,inR,decide_eq_true_eq]at h3
 refine ⟨h3.1.1.1,h3.1.1.2,h3.1.2,h3.2,h1.symm,be (fun h4=>?_) (fun h4=>⟨h3.1.1.1,h3.1.1.2,h1.symm,hpre,?_⟩)⟩
 ·rw [if_pos h4];rfl
 ·rw [if_neg (by rw [h4];decide)]
theorem am1:dg Try.prog 33 jj:=
 d7 (Φ:=adx) (am aol (am xl (am aqy (am auo (am ada ba))))) bo (by kernel_rfl) (fn:=Try.f33) (c:=aj Try.f33) (by kernel_rfl) (by kernel_rfl) (by kernel_rfl) jj rfl .n (aw []) (by kernel_rfl) (by kernel_rfl) aon (by decide) (fun x K=>u7 x.1 x.2.1 x.2.2.1 K) aou (fun x h1 h2=>aor x.1 x.2.1 x.2.2.1 h1 h2)
def aez (l:List eq) (n:Int) (i:Nat):List Int:=(ce i fun k=>k).foldl (fun a k=>if (yv l k).2.length=0 then a.set (yv l k).1.1.toNat k else a) (List.replicate n.toNat 0)
def atw (n:Int) (l:List eq) (t:List (List Int)):ac:=(n,(l.map (·.1.1),(l.map (·.1.2),(aez l n l.length,t))))
def agh (n:Int) (fr to:List Int):ac×Int:=
 if fr.length=to.length then (if (inR n 0 8 && bn fr n && bn to n)=true then (if y9 n fr to=true then (T.dflt bj,5)else if (il n fr to).2=true then (atw n (il n fr to).1 (af5 (atw n (il n fr to).1 []) (zr (il n fr to).1)),0)else (T.dflt bj,3))else (T.dflt bj,2))else (T.dflt bj,1)
theorem bi6 {l:List eq} {n i:Int} (h:0<=i):aez l n (i+1).toNat=if (yv l i).2.length=0 then (aez l n i.toNat).set (yv l i).1.1.toNat i else aez l n i.toNat:=by
 unfold aez;rw [yc h,List.foldl_append];rfl
theorem as3 {l:List eq} {n:Int}:∀ i:Nat,(aez l n i).length=n.toNat
 | 0=>by simp [aez,ce]
 | i+1=>by
  have:=@bi6 l n i (by omega)
  rw [show ((i:Int)+1).toNat=i+1 from rfl,Int.toNat_natCast]at this
  rw [this]
  split
  ·rw [List.length_set,as3 i]
  ·exact as3 i
theorem bpe {n:Int} {fr to:List Int}:(il n fr to).1.length<=40:=by
 unfold il
 split
 ·rename_i h;rw [(ams _).length_eq,List.length_map];exact h
 ·exact Nat.zero_le _
theorem bpu {n:Int} {fr to:List Int} {p:eq} (h:p ∈ (il n fr to).1):(0<=p.1.1/\p.1.1 < n)/\p.2.length<=42:=by
 unfold il at h
 split at h
 ·have h1:=(ams _).mem_iff.1 h
  obtain ⟨q,hq,rfl⟩:=List.mem_map.1 h1
  refine ⟨aob (fun p=>0<=p.1/\p.1 < n) (fun p e hp _ _ _=>hp) 42 0 _ (fun p hp=>?_) q hq,?_⟩
  ·have:=ac3 hp;exact ⟨this.1,this.2.1⟩
  ·have:=atj 42 0 _ (fun p hp=>by rw [(ac3 hp).2.2.2];simp) q hq
   show q.2.2.length<=42
   omega
 ·cases h
def jn:Ct:=⟨[(.int .i64),(.sl (.int .i64)),(.sl (.int .i64))],[false,false,false],fun x=>[x.2.1.length<=1000000000],[(true,(.fz bj)),(false,(.fz (.int .i64)))],fun x=>((agh x.1 x.2.1 x.2.2.1).1,(agh x.1 x.2.1 x.2.2.1).2,()),true,none⟩
def aed:Ann:=(.s .n (.s .n (.s .n (.s .n (.s .n (.s .n (.s .n (.s (.s .n (.l [(6,(.ad 6 [.de])),(10,(.ad 10 [.de])),(56,(.d (.int .i64)))] [(6,(.pt (.p (.fz (.int .i64)) (.p (.sl (.fz (.int .i64))) (.p (.sl (.fz (.int .i64))) (.p (.sl (.fz (.int .i64))) (.sl (.sl (.fz (.int .i64)))))))))),(10,(.pt (.p (.fz (.int .i64)) (.p (.sl (.fz (.int .i64))) (.p (.sl (.fz (.int .i64))) (.p (.sl (.fz (.int .i64))) (.sl (.sl (.fz (.int .i64))))))))))] [8,54,55] (.s .n (.s .n (.s (.s .n (.s .n (.s .n (.s .n (.j [(6,(.ad 6 [.de])),(10,(.ad 10 [.de]))] [(6,(.pt (.p (.fz (.int .i64)) (.p (.sl (.fz (.int .i64))) (.p (.sl (.fz (.int .i64))) (.p (.sl (.fz (.int .i64))) (.sl (.sl (.fz (.int .i64)))))))))),(10,(.pt (.p (.fz (.int .i64)) (.p (.sl (.fz (.int .i64))) (.p (.sl (.fz (.int .i64))) (.p (.sl (.fz (.int .i64))) (.sl (.sl (.fz (.int .i64))))))))))] [8,54,55,56] .n))))) .n))))) .n))))))))
def adt:FuncId->Option Ct:=lkp [(81,jf),(39,kn),(85,kt),(86,me),(87,zg)]
def uz (n:Int) (from_:List Int) (to:List Int) (K:ac×Int×Unit->Prop):Prop:=(cnd (((from_.length:Nat):Int) != ((to.length:Nat):Int)) (K ((0,([],([],([],[])))),(1,()))) ((((!(inR n 0 8))=false)->(inK .i64 (n - 1)))/\(((((!(inR n 0 8)) || (!(bn from_ n)))=false)->(inK .i64 (n - 1)))/\(cnd (((!(inR n 0 8)) || (!(bn from_ n))) || (!(bn to n))) (K ((0,([],([],([],[])))),(2,()))) ((0<=n)/\((n<=8)/\(((bn from_ n)=true)/\(((bn to n)=true)/\((to.length=from_.length)/\(cnd (y9 n from_ to) (K ((0,([],([],([],[])))),(5,()))) ((0<=n)/\((n<=8)/\(((bn from_ n)=true)/\(((bn to n)=true)/\((to.length=from_.length)/\(cnd (!(il n from_ to).2) (K ((0,([],([],([],[])))),(3,()))) ((0<=n)/\((n<=n)/\((n<=((140737488355328:Nat):Int))/\(((n * ((8:Nat):Int))<=((140737488355328:Nat):Int))/\(bu (S:=(brc×brf)) (fun s=>(fun next=>((inK .i64 s.1.2.2.1)->((inK .i64 s.2.1.1)->((T.ok (.sl (.int .i64)) s.2.1.2.1)->((T.ok (.sl (.int .i64)) s.2.1.2.2.1)->((T.ok (.sl (.int .i64)) s.2.1.2.2.2.1)->((T.ok (.sl (.sl (.int .i64))) s.2.1.2.2.2.2)->((inK .i64 s.2.2.1.1)->((T.ok (.sl (.int .i64)) s.2.2.1.2.1)->((T.ok (.sl (.int .i64)) s.2.2.1.2.2.1)->((T.ok (.sl (.int .i64)) s.2.2.1.2.2.2.1)->((T.ok (.sl (.sl (.int .i64))) s.2.2.1.2.2.2.2)->(cnd (decide (s.1.2.2.1 < (((List.length (il n from_ to).1):Nat):Int))) ((0<=s.1.2.2.1)/\((s.1.2.2.1 < (((List.length (il n from_ to).1):Nat):Int))/\((fg s.2.2.1.2.1.length (List.length ((List.getD (il n from_ to).1 s.1.2.2.1.toNat ((0,0),[])).1.1::[])) 8)/\((fg s.2.2.1.2.2.1.length (List.length ((List.getD (il n from_ to).1 s.1.2.2.1.toNat ((0,0),[])).1.2::[])) 8)/\(fk (S:=(brp×brf)) (fun s1=>((inK .i64 s1.2.1.1)->((T.ok (.sl (.int .i64)) s1.2.1.2.1)->((T.ok (.sl (.int .i64)) s1.2.1.2.2.1)->((T.ok (.sl (.int .i64)) s1.2.1.2.2.2.1)->((T.ok (.sl (.sl (.int .i64))) s1.2.1.2.2.2.2)->((inK .i64 s1.2.2.1.1)->((T.ok (.sl (.int .i64)) s1.2.2.1.2.1)->((T.ok (.sl (.int .i64)) s1.2.2.1.2.2.1)->((T.ok (.sl (.int .i64)) s1.2.2.1.2.2.2.1)->((T.ok (.sl (.sl (.int .i64))) s1.2.2.1.2.2.2.2)->((inK .i64 (s.1.2.2.1+1))/\(next (((),((),((s.1.2.2.1+1),()))),(s1.2.1,(s1.2.2.1,())))))))))))))))) (fun k=>(cnd ((((List.length (List.getD (il n from_ to).1 s.1.2.2.1.toNat ((0,0),[])).2):Nat):Int) == 0) ((0<=(List.getD (il n from_ to).1 s.1.2.2.1.toNat ((0,0),[])).1.1)/\(((List.getD (il n from_ to).1 s.1.2.2.1.toNat ((0,0),[])).1.1 < ((s.2.2.1.2.2.2.1.length:Nat):Int))/\(k (((),((),())),(s.2.1,((s.2.2.1.1,((s.2.2.1.2.1++((List.getD (il n from_ to).1 s.1.2.2.1.toNat ((0,0),[])).1.1::[])),((s.2.2.1.2.2.1++((List.getD (il n from_ to).1 s.1.2.2.1.toNat ((0,0),[])).1.2::[])),((List.set s.2.2.1.2.2.2.1 (Int.toNat (List.getD (il n from_ to).1 s.1.2.2.1.toNat ((0,0),[])).1.1) s.1.2.2.1),s.2.2.1.2.2.2.2)))),())))))) (k (((),((),())),(s.2.1,((s.2.2.1.1,((s.2.2.1.2.1++((List.getD (il n from_ to).1 s.1.2.2.1.toNat ((0,0),[])).1.1::[])),((s.2.2.1.2.2.1++((List.getD (il n from_ to).1 s.1.2.2.1.toNat ((0,0),[])).1.2::[])),s.2.2.1.2.2.2))),()))))))))))) ((TabPR s.2.2.1 (il n from_ to).1)/\(K ((s.2.2.1.1,(s.2.2.1.2.1,(s.2.2.1.2.2.1,(s.2.2.1.2.2.2.1,(af5 s.2.2.1 (zr (il n from_ to).1)))))),(0,())))))))))))))))))) (((),((),(0,()))),((0,([],([],([],[])))),((n,([],([],((List.replicate n.toNat (0:Int)),[])))),()))))))))))))))))))))))))
theorem aoo (x:bi jn.args) (K:ac×Int×Unit->Prop):evF tab adt (aw []) Try.f32 (aj Try.f32) aed jn x K=uz x.1 x.2.1 x.2.2.1 K:=by kernel_rfl
theorem aoq:okC Try.f32.ntmps (aw []) (aj Try.f32)=true:=by kernel_rfl
theorem aot (n:Int) (from_:List Int) (to:List Int) (hok:ae (okL jn.args (n,from_,to,()))) (hpre:ae (jn.pre (n,from_,to,()))):uz n from_ to (fun r=>r=jn.res (n,from_,to,())):=by
 simp only [jn,okL,T.oks,T.ok,ap,ae,true_and,and_true,implies_true]at hok hpre
 try dsimp only [T.den]at hok
 try dsimp only [T.den]at hpre
 unfold uz
 simp only [jn,agh]
 refine be (fun h=>?_) (fun h=>?_)
 ·have h1:¬ from_.length=to.length:=by
   intro e;rw [e]at h;simp at h
  rw [if_neg h1];rfl
 have h1:from_.length=to.length:=by
  have:=bne_eq_false_iff_eq.1 h
  omega
 rw [if_pos h1]
 have hin:((!(inR n 0 8))=false->inK .i64 (n - 1)):=fun h2=>by
  rw [Bool.not_eq_false']at h2
  simp only [inR,Bool.and_eq_true,decide_eq_true_eq]at h2
  rw [au];omega
 refine ⟨hin,fun h2=>hin (Bool.or_eq_false_iff.1 h2).1,be (fun h2=>?_) (fun h2=>?_)⟩
 ·have h3:¬ (inR n 0 8 && bn from_ n && bn to n)=true:=by
   intro e
   simp only [Bool.and_eq_true]at e
   rw [e.1.1,e.1.2,e.2]at h2
   cases h2
  rw [if_neg h3];rfl
 have h3:(inR n 0 8 && bn from_ n && bn to n)=true:=by
  simp only [Bool.or_eq_false_iff,Bool.not_eq_false']at h2
  rw [h2.1.1,h2.1.2,h2.2];rfl
 rw [if_pos h3]
 simp only [Bool.and_eq_true,inR,decide_eq_true_eq]at h3
 have n0:=h3.1.1.1
 have n8:=h3.1.1.2
 refine ⟨n0,n8,h3.1.2,h3.2,h1.symm,be (fun h4=>?_) (fun h4=>⟨n0,n8,h3.1.2,h3.2,h1.symm,be (fun h5=>?_) (fun h5=>⟨n0,Int.le_refl _,by omega,by omega,?_⟩)⟩)⟩
 ·rw [if_pos h4];rfl
 ·rw [if_neg (by rw [h4];decide),if_neg (by rw [Bool.not_eq_true']at h5;rw [h5];decide)];rfl
 rw [if_neg (by rw [h4];decide),if_pos (by rw [Bool.not_eq_false']at h5;exact h5)]
 have hm:=@bpu n from_ to
 have hx:=@bpe n from_ to
 generalize (il n from_ to).1=l at *
 have hg:∀ {i:Int},0<=i->i < l.length->(0<=(yv l i).1.1/\(yv l i).1.1 < n)/\(yv l i).2.length<=42:=fun h0 h1=>hm (gf l _ h0 h1)
 refine ca (fun (s:(brc×brf))=>0<=s.1.2.2.1/\s.1.2.2.1<=l.length/\s.2.2.1=(n,((l.take s.1.2.2.1.toNat).map (·.1.1),((l.take s.1.2.2.1.toNat).map (·.1.2),(aez l n s.1.2.2.1.toNat,[]))))) (fun (s:(brc×brf))=>(l.length - s.1.2.2.1).toNat) ?_ ⟨by simp,by simp,rfl⟩
 rintro ⟨⟨_,_,i,_⟩,o1,c,_⟩ next ⟨i0,i1,q⟩ hnx
 intros
 try dsimp only at i0 i1 q hnx ⊢
 subst q
 refine bf (fun hi=>?_) (fun hi=>?_)
 ·have hp:=hg i0 hi
  have ht:=af3 l ((0,0),[]) i0 hi
  have hs:=bi6 (l:=l) (n:=n) i0
  have hl:((l.take i.toNat).map (·.1.1)).length=i.toNat:=by rw [List.length_map,List.length_take];omega
  have hl2:((l.take i.toNat).map (·.1.2)).length=i.toNat:=by rw [List.length_map,List.length_take];omega
  have hil:=@as3 l n i.toNat
  have hc:(n,((l.take (i+1).toNat).map (·.1.1),((l.take (i+1).toNat).map (·.1.2),(aez l n (i+1).toNat,([]:List (List Int))))))=(n,((l.take i.toNat).map (·.1.1)++[(yv l i).1.1],((l.take i.toNat).map (·.1.2)++[(yv l i).1.2],(aez l n (i+1).toNat,[])))):=by rw [ht,List.map_append,List.map_append];rfl
  refine ⟨i0,hi,cw (by rw [hl];simp only [List.length_cons,List.length_nil];omega),cw (by rw [hl2];simp only [List.length_cons,List.length_nil];omega),dn (fun (q:(brp×brf))=>q.2.2.1=(n,((l.take (i+1).toNat).map (·.1.1),((l.take (i+1).toNat).map (·.1.2),(aez l n (i+1).toNat,([]:List (List Int))))))) ?_ ?_⟩
  ·rintro ⟨_,o2,c2,_⟩ q2
   intros
   try dsimp only at q2 ⊢
   subst q2
   exact ⟨by rw [au];(try dsimp only);omega,hnx _ ⟨by dsimp only;omega,by dsimp only;omega,rfl⟩ (by dsimp only;omega)⟩
  ·intro k hk
   rw [hc,hs]at hk
   refine be (fun h=>?_) (fun h=>?_)
   ·have h0:(yv l i).2.length=0:=(by have:(((yv l i).2.length:Nat):Int)=0:=eq_of_beq h;omega)
    rw [if_pos h0]at hk
    exact ⟨hp.1.1,by rw [hil];show (yv l i).1.1 < _;omega,hk _ rfl⟩
   ·have h0:¬ (yv l i).2.length=0:=(by have:¬ (((yv l i).2.length:Nat):Int)=0:=beq_eq_false_iff_ne.1 h;omega)
    rw [if_neg h0]at hk
    exact hk _ rfl
 have ei:i=l.length:=by omega
 subst ei
 rw [Int.toNat_natCast,List.take_length]
 refine ⟨⟨by simp,by simp,hx,fun p hp=>(hm hp).2⟩,rfl⟩
theorem anc:dg Try.prog 32 jn:=
 d7 (Φ:=adt) (am z6 (am afc (am asy (am axv (am agb ba))))) bo (by kernel_rfl) (fn:=Try.f32) (c:=aj Try.f32) (by kernel_rfl) (by kernel_rfl) (by kernel_rfl) jn rfl aed (aw []) (by kernel_rfl) (by kernel_rfl) aoq (by decide) (fun x K=>uz x.1 x.2.1 x.2.2.1 K) aoo (fun x h1 h2=>aot x.1 x.2.1 x.2.2.1 h1 h2)
def pcR (c:ac):Int->List Int->Int
 | h,[]=>h
 | h,f::r=>if cq c h f < 0 then -1 else pcR c (cq c h f) r
def ed (c:ac) (x:Int) (l:List Int):Int×Int:=if g7 c l=0 then (if inR x 0 (c.1 - 1)=true then (if pcR c (c.2.2.2.1.getD x.toNat 0) l < 0 then (0,5)else (pcR c (c.2.2.2.1.getD x.toNat 0) l,0))else (0,2))else (0,g7 c l)
def gh:Ct:=⟨[bj,(.int .i64),(.sl (.int .i64))],[true,false,false],fun x=>[],[(false,(.fz (.int .i64))),(false,(.fz (.int .i64)))],fun x=>((ed x.1 x.2.1 x.2.2.1).1,(ed x.1 x.2.1 x.2.2.1).2,()),false,none⟩
def ado:Ann:=(.s .n (.s .n (.s .n (.s .n (.s (.s .n (.l [(9,(.d (.int .i64))),(30,(.d (.int .i64)))] [] [3,28,29] .n)) .n)))))
def adm:FuncId->Option Ct:=lkp [(67,g9),(80,j8),(81,jf)]
def tv (c:ac) (x:Int) (path:List Int) (K:Int×Int×Unit->Prop):Prop:=(cnd ((g7 c path) != 0) (K (0,((g7 c path),()))) ((inK .i64 (c.1 - 1))/\(cnd (!(inR x 0 (c.1 - 1))) (K (0,(2,()))) ((0<=x)/\((x < ((c.2.2.2.1.length:Nat):Int))/\(bu (S:=bry) (fun s=>(fun next=>((inK .i64 s.1.1)->((inK .i64 s.1.2.1)->(cnd (decide (s.1.2.1 < ((path.length:Nat):Int))) ((0<=s.1.2.1)/\((s.1.2.1 < ((path.length:Nat):Int))/\((0<=s.1.1)/\((s.1.1 < ((c.2.2.2.2.length:Nat):Int))/\((0<=(List.getD path s.1.2.1.toNat 0))/\(((List.getD path s.1.2.1.toNat 0) < (((List.length (List.getD c.2.2.2.2 s.1.1.toNat [])):Nat):Int))/\(cnd (decide ((cq c s.1.1 (List.getD path s.1.2.1.toNat 0)) < 0)) (K (0,(5,()))) ((inK .i64 (s.1.2.1+1))/\(next (((cq c s.1.1 (List.getD path s.1.2.1.toNat 0)),((s.1.2.1+1),())),())))))))))) (K (s.1.1,(0,())))))))) (((List.getD c.2.2.2.1 x.toNat 0),(0,())),())))))))
theorem anl (x:bi gh.args) (K:Int×Int×Unit->Prop):evF tab adm (aw []) Try.f28 (aj Try.f28) ado gh x K=tv x.1 x.2.1 x.2.2.1 K:=by kernel_rfl
theorem anm:okC Try.f28.ntmps (aw []) (aj Try.f28)=true:=by kernel_rfl
theorem anj (c:ac) (x:Int) (path:List Int) (hok:ae (okL gh.args (c,x,path,()))) (hpre:ae (gh.pre (c,x,path,()))):tv c x path (fun r=>r=gh.res (c,x,path,())):=by
 simp only [gh,okL,T.oks,T.ok,ap,ae,true_and,and_true,implies_true]at hok hpre
 try dsimp only [T.den]at hok
 try dsimp only [T.den]at hpre
 unfold tv
 refine be (fun hx=>?_) (fun hx=>?_)
 ·have h:¬ g7 c path=0:=by simpa using hx
  simp only [gh,ed];rw [if_neg h]
 have h:g7 c path=0:=by simpa using hx
 obtain ⟨S,hw⟩:=aps h
 have hob:=S.ob
 have hmm:=S.m
 have hlc:=S.lc
 have hli:=S.li
 refine ⟨by rw [au];(try dsimp only);omega,be (fun hy=>?_) (fun hy=>?_)⟩
 ·have hi:¬ inR x 0 (c.1 - 1)=true:=by simpa using hy
  simp only [gh,ed];rw [if_pos h,if_neg hi]
 have hi:inR x 0 (c.1 - 1)=true:=by simpa using hy
 have hi2:=hi
 simp only [inR,Bool.and_eq_true,decide_eq_true_eq]at hi2
 have hid:=S.idn hi2.1 (by omega)
 have hlp:path.length<=140737488355328:=by simp only [fy]at hok;omega
 have hp:ed c x path=(if pcR c (c.2.2.2.1.getD x.toNat 0) path < 0 then (0,5)else (pcR c (c.2.2.2.1.getD x.toNat 0) path,0)):=by unfold ed;rw [if_pos h,if_pos hi]
 simp only [gh,hp]
 clear hok hpre hp hx hy
 refine ⟨hi2.1,by omega,?_⟩
 refine ca (fun (s:bry)=>0<=s.1.2.1/\s.1.2.1<=path.length/\0<=s.1.1/\s.1.1 < c.2.1.length/\pcR c (c.2.2.2.1.getD x.toNat 0) path=pcR c s.1.1 (path.drop s.1.2.1.toNat)) (fun (s:bry)=>(path.length - s.1.2.1).toNat) ?_ ⟨by simp,by simp,hid.1,hid.2.1,by simp⟩
 rintro ⟨⟨g,i,_⟩,_⟩ next ⟨h0,h1,h2,h3,h4⟩ hn _ _
 try dsimp only at h0 h1 h2 h3 h4 hn ⊢
 refine bf (fun hc=>?_) (fun hc=>?_)
 ·have hpi:=io.1 hw i h0 hc
  rw [aay path 0 h0 hc,pcR]at h4
  have hr:=S.row g h2 h3
  refine ⟨h0,hc,h2,by omega,hpi.1,by rw [hr];exact hpi.2,bf (fun hd=>?_) (fun hd=>⟨by rw [au];(try dsimp only);omega,?_⟩)⟩
  ·rw [if_pos hd]at h4
   rw [h4];rfl
  ·rw [if_neg hd]at h4
   have hy:=S.yes h2 h3 hpi.1 hpi.2 ((S.comp h2 h3 hpi.1 hpi.2).1 (by omega))
   exact hn _ ⟨by dsimp only;omega,by dsimp only;omega,hy.1,hy.2.1,h4⟩ (by dsimp only;omega)
 ·rw [acf path (by omega),pcR]at h4
  rw [h4,if_neg (by omega)]
theorem ak8:dg Try.prog 28 gh:=
 d7 (Φ:=adm) (am x8 (am ag3 (am z6 ba))) bo (by kernel_rfl) (fn:=Try.f28) (c:=aj Try.f28) (by kernel_rfl) (by kernel_rfl) (by kernel_rfl) gh rfl ado (aw []) (by kernel_rfl) (by kernel_rfl) anm (by decide) (fun x K=>tv x.1 x.2.1 x.2.2.1 K) anl (fun x h1 h2=>anj x.1 x.2.1 x.2.2.1 h1 h2)
def tm:Ct:=⟨[(.sl (.int .u8))],[false],fun x=>[],[(false,(.fz .bool))],fun x=>(decide ((4096:Int) < x.1.length),()),false,none⟩
def aht (code:List Int) (K:Bool×Unit->Prop):Prop:=(K ((decide (4096 < ((code.length:Nat):Int))),()))
theorem bhe (x:bi tm.args) (K:Bool×Unit->Prop):evF tab (lkp []) (aw []) Try.f7 (aj Try.f7) .n tm x K=aht x.1 K:=by kernel_rfl
theorem bgy:okC Try.f7.ntmps (aw []) (aj Try.f7)=true:=by kernel_rfl
theorem bg5 (code:List Int) (hok:ae (okL tm.args (code,()))) (hpre:ae (tm.pre (code,()))):aht code (fun r=>r=tm.res (code,())):=by
 simp only [tm,okL,T.oks,T.ok,ap,ae,true_and,and_true,implies_true]at hok hpre
 try dsimp only [T.den]at hok
 try dsimp only [T.den]at hpre
 unfold aht
 rfl
theorem bd9:dg Try.prog 7 tm:=
 d7 (Φ:=lkp []) ba bo (by kernel_rfl) (fn:=Try.f7) (c:=aj Try.f7) (by kernel_rfl) (by kernel_rfl) (by kernel_rfl) tm rfl .n (aw []) (by kernel_rfl) (by kernel_rfl) bgy (by decide) (fun x K=>aht x.1 K) bhe (fun x h1 h2=>bg5 x.1 h1 h2)
def z7 (a b:List Int):Bool:=decide (a=b)
def iq:Ct:=⟨[(.sl (.int .i64)),(.sl (.int .i64))],[false,false],fun x=>[],[(false,(.fz .bool))],fun x=>(z7 x.1 x.2.1,()),false,none⟩
def ai3:Ann:=(.s .n (.s .n (.s (.s .n (.l [(5,(.d (.int .i64)))] [] [0,1] .n)) .n)))
def zt (a:List Int) (b:List Int) (K:Bool×Unit->Prop):Prop:=(cnd (((a.length:Nat):Int) != ((b.length:Nat):Int)) (K (false,())) (bu (S:=brl) (fun s=>(fun next=>((inK .i64 s.1.1)->(cnd (decide (s.1.1 < ((a.length:Nat):Int))) ((0<=s.1.1)/\((s.1.1 < ((a.length:Nat):Int))/\((0<=s.1.1)/\((s.1.1 < ((b.length:Nat):Int))/\(cnd ((List.getD a s.1.1.toNat 0) != (List.getD b s.1.1.toNat 0)) (K (false,())) ((inK .i64 (s.1.1+1))/\(next (((s.1.1+1),()),())))))))) (K (true,())))))) ((0,()),())))
theorem au6 (x:bi iq.args) (K:Bool×Unit->Prop):evF tab (lkp []) (aw [(6,8)]) Try.f95 (aj Try.f95) ai3 iq x K=zt x.1 x.2.1 K:=by kernel_rfl
theorem avb:okC Try.f95.ntmps (aw [(6,8)]) (aj Try.f95)=true:=by kernel_rfl
theorem avx (a:List Int) (b:List Int) (hok:ae (okL iq.args (a,b,()))) (hpre:ae (iq.pre (a,b,()))):zt a b (fun r=>r=iq.res (a,b,())):=by
 simp only [iq,okL,T.oks,T.ok,ap,ae,true_and,and_true,implies_true]at hok hpre
 try dsimp only [T.den]at hok
 try dsimp only [T.den]at hpre
 unfold zt
 have hla:a.length<=140737488355328:=by have:=hok.1.1;rw [fy]at this;omega
 clear hok
 refine be (fun hc=>?_) (fun hc=>?_)
 ·simp only [iq,z7,Prod.mk.injEq,and_true,decide_eq_false_iff_not];rw [eq_comm,decide_eq_false_iff_not];rintro rfl;simp at hc
 have hl:a.length=b.length:=by simp at hc;omega
 refine ca (fun (s:brl)=>0<=s.1.1/\s.1.1<=a.length/\a.take s.1.1.toNat=b.take s.1.1.toNat) (fun (s:brl)=>(a.length - s.1.1).toNat) ?_ (by simp)
 rintro ⟨⟨i,_⟩,_⟩ next ⟨h0,h1,h2⟩ hn hin
 simp only at h0 h1 h2 hn ⊢
 refine bf (fun hc=>?_) (fun hc=>?_)
 ·have ha:=af3 a 0 h0 hc
  have hb:=af3 b 0 h0 (by omega)
  refine ⟨by omega,by omega,by omega,by omega,be (fun hd=>?_) (fun hd=>?_)⟩
  ·simp only [iq,z7,Prod.mk.injEq,and_true];rw [eq_comm,decide_eq_false_iff_not];rintro rfl;simp at hd
  ·refine ⟨by rw [au];(try dsimp only);omega,hn _ ⟨(by first | omega | (dsimp only;omega)),(by first | omega | (dsimp only;omega)),?_⟩ (by first | omega | (dsimp only;omega))⟩
   rw [bne_eq_false_iff_eq]at hd
   simp only [ha,hb,h2,hd]
 ·rw [ak5 a (by omega),ak5 b (by omega)]at h2
  simp [h2,iq,z7]
theorem aij:dg Try.prog 95 iq:=
 d7 (Φ:=lkp []) ba bo (by kernel_rfl) (fn:=Try.f95) (c:=aj Try.f95) (by kernel_rfl) (by kernel_rfl) (by kernel_rfl) iq rfl ai3 (aw [(6,8)]) (by kernel_rfl) (by kernel_rfl) avb (by decide) (fun x K=>zt x.1 x.2.1 K) au6 (fun x h1 h2=>avx x.1 x.2.1 h1 h2)
def jo:Ct:=⟨[(.sl (.sl (.int .i64))),(.sl (.sl (.int .i64)))],[false,false],fun x=>[],[(false,(.fz .bool))],fun x=>(eqR (.sl (.sl (.int .i64))) x.1 x.2.1,()),false,none⟩
def ahc:Ann:=(.s .n (.s .n (.s (.s .n (.l [(5,(.d (.int .i64)))] [] [0,1] .n)) .n)))
def y4 (a:List (List Int)) (b:List (List Int)) (K:Bool×Unit->Prop):Prop:=(cnd (((a.length:Nat):Int) != ((b.length:Nat):Int)) (K (false,())) (bu (S:=brl) (fun s=>(fun next=>((inK .i64 s.1.1)->(cnd (decide (s.1.1 < ((a.length:Nat):Int))) ((0<=s.1.1)/\((s.1.1 < ((a.length:Nat):Int))/\((0<=s.1.1)/\((s.1.1 < ((b.length:Nat):Int))/\(cnd (!(z7 (List.getD a s.1.1.toNat []) (List.getD b s.1.1.toNat []))) (K (false,())) ((inK .i64 (s.1.1+1))/\(next (((s.1.1+1),()),())))))))) (K (true,())))))) ((0,()),())))
theorem asn (x:bi jo.args) (K:Bool×Unit->Prop):evF tab (lkp [(95,iq)]) (aw [(6,508)]) Try.f96 (aj Try.f96) ahc jo x K=y4 x.1 x.2.1 K:=by kernel_rfl
theorem atd:okC Try.f96.ntmps (aw [(6,508)]) (aj Try.f96)=true:=by kernel_rfl
theorem arx (a:List (List Int)) (b:List (List Int)) (hok:ae (okL jo.args (a,b,()))) (hpre:ae (jo.pre (a,b,()))):y4 a b (fun r=>r=jo.res (a,b,())):=by
 simp only [jo,okL,T.oks,T.ok,ap,ae,true_and,and_true,implies_true]at hok hpre
 try dsimp only [T.den]at hok
 try dsimp only [T.den]at hpre
 unfold y4
 have h1:a.length<=140737488355328:=by simp only [fy]at hok;omega
 clear hok hpre
 refine be (fun hx=>?_) (fun hx=>?_)
 ·have hne:(a.length:Int) ≠ b.length:=by simpa using hx
  have:eqR (.sl (.sl (.int .i64))) a b=false:=by
   cases h:eqR (.sl (.sl (.int .i64))) a b with
   | false=>rfl
   | true=>rw [adg.1 h]at hne;exact absurd rfl hne
  simp only [jo,this]
 have he:(a.length:Int)=b.length:=by simpa using hx
 refine nh (n:=a.length) (fun i=>∀ k:Int,0<=k->k < i->a.getD k.toNat []=b.getD k.toNat []) (by omega) (by intro k h0 h1;omega) ?_ ?_
 ·intro i next i0 i1 hP hn _
  try dsimp only
  refine bf (fun _=>⟨i0,i1,i0,by omega,be (fun hd=>?_) (fun hd=>⟨by rw [au];(try dsimp only);omega,hn fun k k0 k1=>?_⟩)⟩) (fun h=>absurd i1 h)
  ·have hne:a.getD i.toNat [] ≠ b.getD i.toNat []:=by unfold z7 at hd;simpa using hd
   have:eqR (.sl (.sl (.int .i64))) a b=false:=by
    cases h:eqR (.sl (.sl (.int .i64))) a b with
    | false=>rfl
    | true=>rw [adg.1 h]at hne;exact absurd rfl hne
   simp only [jo,this]
  ·by_cases hk:k=i
   ·subst hk;unfold z7 at hd;simpa using hd
   ·exact hP k k0 (by omega)
 ·intro next hP _
  refine bf (fun h=>absurd h (Int.lt_irrefl _)) (fun _=>?_)
  have:a=b:=by
   refine List.ext_getElem (by omega) fun k k1 k2=>?_
   have:=hP k (by omega) (by omega)
   rw [List.getD_eq_getElem?_getD,List.getD_eq_getElem?_getD,Int.toNat_natCast,List.getElem?_eq_getElem k1,List.getElem?_eq_getElem k2]at this
   exact this
  have e:eqR (.sl (.sl (.int .i64))) a b=true:=by rw [this];exact bbp _
  simp only [jo,e]
theorem aq4:dg Try.prog 96 jo:=
 d7 (Φ:=lkp [(95,iq)]) (am aij ba) bo (by kernel_rfl) (fn:=Try.f96) (c:=aj Try.f96) (by kernel_rfl) (by kernel_rfl) (by kernel_rfl) jo rfl ahc (aw [(6,508)]) (by kernel_rfl) (by kernel_rfl) atd (by decide) (fun x K=>y4 x.1 x.2.1 K) asn (fun x h1 h2=>arx x.1 x.2.1 h1 h2)
def gz:Ct:=⟨[bj,bj],[true,true],fun x=>[],[(false,(.fz .bool))],fun x=>(eqR bj x.1 x.2.1,()),false,none⟩
def abz:FuncId->Option Ct:=lkp [(95,iq),(96,jo)]
def rf (a:ac) (b:ac) (K:Bool×Unit->Prop):Prop:=(K ((((((a.1 == b.1) && (z7 a.2.1 b.2.1)) && (z7 a.2.2.1 b.2.2.1)) && (z7 a.2.2.2.1 b.2.2.2.1)) && (eqR (.sl (.sl (.int .i64))) a.2.2.2.2 b.2.2.2.2)),()))
theorem ak0 (x:bi gz.args) (K:Bool×Unit->Prop):evF tab abz (aw []) Try.f34 (aj Try.f34) .n gz x K=rf x.1 x.2.1 K:=by kernel_rfl
theorem akk:okC Try.f34.ntmps (aw []) (aj Try.f34)=true:=by kernel_rfl
theorem akt (a:ac) (b:ac) (hok:ae (okL gz.args (a,b,()))) (hpre:ae (gz.pre (a,b,()))):rf a b (fun r=>r=gz.res (a,b,())):=by
 simp only [gz,okL,T.oks,T.ok,ap,ae,true_and,and_true,implies_true]at hok hpre
 try dsimp only [T.den]at hok
 try dsimp only [T.den]at hpre
 unfold rf
 simp only [gz]
 have h:((((((a.1 == b.1) && z7 a.2.1 b.2.1) && z7 a.2.2.1 b.2.2.1) && z7 a.2.2.2.1 b.2.2.2.1) && eqR (.sl (.sl (.int .i64))) a.2.2.2.2 b.2.2.2.2))=eqR bj a b:=by
  rw [Bool.eq_iff_iff]
  simp only [Bool.and_eq_true,beq_iff_eq,z7,decide_eq_true_eq,adg]
  constructor
  ·rintro ⟨⟨⟨⟨h1,h2⟩,h3⟩,h4⟩,h5⟩
   exact Prod.ext h1 (Prod.ext h2 (Prod.ext h3 (Prod.ext h4 h5)))
  ·intro h;subst h;exact ⟨⟨⟨⟨rfl,rfl⟩,rfl⟩,rfl⟩,rfl⟩
 rw [← h]
theorem ajf:dg Try.prog 34 gz:=
 d7 (Φ:=abz) (am aij (am aq4 ba)) bo (by kernel_rfl) (fn:=Try.f34) (c:=aj Try.f34) (by kernel_rfl) (by kernel_rfl) (by kernel_rfl) gz rfl .n (aw []) (by kernel_rfl) (by kernel_rfl) akk (by decide) (fun x K=>rf x.1 x.2.1 K) ak0 (fun x h1 h2=>akt x.1 x.2.1 h1 h2)
def ly:Ct:=⟨[(.sl (.int .u8)),(.int .u64)],[false,false],fun x=>[],[(false,(.pt (.fz bp)))],fun _=>dfR _,true,none⟩
def ab9 (code:List Int) (seed:Int) (r0:ah):Prop:=ck r0
def aei:Ann:=(.s .n (.s .n (.s (.s .n (.l [(5,(.ad 15 [.de])),(6,(.d (.int .i64)))] [(15,(.pt (.fz (.p (.sl (.int .u8)) (.p (.int .i64) (.int .u64))))))] [0] .n)) .n)))
def wq (code:List Int) (seed:Int) (K:ah×Unit->Prop):Prop:=(bu (S:=brx) (fun s=>(fun next=>((inK .i64 s.1.2.1)->((T.ok (.sl (.int .u8)) s.2.1.1)->((inK .i64 s.2.1.2.1)->((inK .u64 s.2.1.2.2)->(cnd (decide (s.1.2.1 < ((code.length:Nat):Int))) ((0<=s.1.2.1)/\((s.1.2.1 < ((code.length:Nat):Int))/\((inK .i64 (s.1.2.1+1))/\(next (((),((s.1.2.1+1),())),((s.2.1.1,(s.2.1.2.1,(IntKind.wrap .u64 ((IntKind.wrap .u64 ((IntKind.wrap .u64 (s.2.1.2.2 * 1099511628211))+(IntKind.wrap .u64 (List.getD code s.1.2.1.toNat 0))))+5)))),())))))) (K (s.2.1,()))))))))) (((),(0,())),((code,(0,(IntKind.wrap .u64 ((IntKind.wrap .u64 (seed * 7681))+(IntKind.wrap .u64 ((code.length:Nat):Int)))))),())))
theorem bee (x:bi ly.args) (K:ah×Unit->Prop):evF tab (lkp []) (aw [(5,13)]) Try.f12 (aj Try.f12) aei ly x K=wq x.1 x.2.1 K:=by kernel_rfl
theorem ari:okC Try.f12.ntmps (aw [(5,13)]) (aj Try.f12)=true:=by kernel_rfl
theorem bef (code:List Int) (seed:Int) (hok:ae (okL ly.args (code,seed,()))) (hpre:ae (ly.pre (code,seed,()))):wq code seed (fun r=>ab9 code seed r.1):=by
 simp only [ly,okL,T.oks,T.ok,ap,ae,true_and,and_true,implies_true]at hok hpre
 try dsimp only [T.den]at hok
 try dsimp only [T.den]at hpre
 unfold wq ab9
 have hl:=hok.1.1
 rw [fy]at hl
 refine ca (fun (s:brx)=>0<=s.1.2.1/\s.1.2.1<=code.length/\s.2.1.1=code/\s.2.1.2.1=0/\inK .u64 s.2.1.2.2) (fun (s:brx)=>(code.length - s.1.2.1).toNat) ?_ ⟨by simp,by simp,rfl,rfl,y8 _ _⟩
 rintro ⟨⟨_,i,_⟩,⟨c,a,h⟩,_⟩ next ⟨h0,h1,h2,h3,h4⟩ hn _ _ _ _
 try dsimp only at h0 h1 h2 h3 h4 hn ⊢
 subst h2;subst h3
 refine bf (fun hc=>?_) (fun _=>⟨?_,Int.le_refl _⟩)
 ·exact ⟨h0,hc,by rw [au];(try dsimp only);omega,hn _ ⟨by dsimp only;omega,by dsimp only;omega,rfl,rfl,y8 _ _⟩ (by first | omega | (dsimp only;omega))⟩
 ·simp only [T.oks,T.ok,ap,ae,and_true]
  exact ⟨hok.1,by rw [au];(try dsimp only);omega,h4⟩
theorem akv (code:List Int) (seed:Int):∃ q:ah×Unit,ae (okL ly.args (code,seed,()))->ae (ly.pre (code,seed,()))->wq code seed (fun r=>r=q)/\ae (okR ly.rt q)/\ab9 code seed q.1:=
 abv (f:=12) (Φ:=lkp []) ba bo (by kernel_rfl) (fn:=Try.f12) (c:=aj Try.f12) (by kernel_rfl) (by kernel_rfl) (by kernel_rfl) ly aei (aw [(5,13)]) (ot (by kernel_rfl)) (by kernel_rfl) (by kernel_rfl) ari (by decide) (by kernel_rfl) (fun x K=>wq x.1 x.2.1 K) bee (fun x r=>ab9 x.1 x.2.1 r.1) (fun x h1 h2=>bef x.1 x.2.1 h1 h2) (code,seed,())
def cg (code:List Int) (seed:Int):ah:=(akv code seed).choose.1
theorem bd8 (code:List Int) (seed:Int) (hok:ae (okL ly.args (code,seed,()))) (hpre:ae (ly.pre (code,seed,()))):ae (okR ly.rt (cg code seed,()))/\ab9 code seed (cg code seed):=((akv code seed).choose_spec hok hpre).2
def acb:Ct:=⟨[(.sl (.int .u8)),(.int .u64)],[false,false],fun x=>[],[(false,(.pt (.fz bp)))],fun x=>((cg x.1 x.2.1),()),true,none⟩
theorem ba8 (x:bi acb.args) (K:ah×Unit->Prop):evF tab (lkp []) (aw [(5,13)]) Try.f12 (aj Try.f12) aei acb x K=wq x.1 x.2.1 K:=by kernel_rfl
theorem bcl:dg Try.prog 12 acb:=
 d7 (Φ:=lkp []) ba bo (by kernel_rfl) (fn:=Try.f12) (c:=aj Try.f12) (by kernel_rfl) (by kernel_rfl) (by kernel_rfl) acb rfl aei (aw [(5,13)]) (by kernel_rfl) (by kernel_rfl) ari (by decide) (fun x K=>wq x.1 x.2.1 K) ba8 (fun x h1 h2=>((akv x.1 x.2.1).choose_spec h1 h2).1)
theorem bpq {code:List Int} {seed:Int} (h:ae ((T.sl (.int .u8)).oks code)) (hs:inK .u64 seed):ck (cg code seed):=
 (bd8 code seed (by simp only [ly,okL,lh];exact ⟨h,⟨hs,trivial⟩,trivial⟩) trivial).2
def jd:Ct:=⟨[(.sl (.int .u8))],[false],fun x=>[],[(false,(.pt (.fz bp)))],fun _=>dfR _,true,none⟩
def x9 (code:List Int) (r0:ah):Prop:=ck r0
def zx:Ann:=(.s .n (.s .n (.s (.s .n (.l [(3,(.ad 11 [.de])),(4,(.d (.int .i64)))] [(11,(.pt (.fz (.p (.sl (.int .u8)) (.p (.int .i64) (.int .u64))))))] [0] .n)) .n)))
def qu (code:List Int) (K:ah×Unit->Prop):Prop:=(bu (S:=brx) (fun s=>(fun next=>((inK .i64 s.1.2.1)->((T.ok (.sl (.int .u8)) s.2.1.1)->((inK .i64 s.2.1.2.1)->((inK .u64 s.2.1.2.2)->(cnd ((decide (s.1.2.1 < ((code.length:Nat):Int))) && (decide (s.1.2.1 < 4096))) ((0<=s.1.2.1)/\((s.1.2.1 < ((code.length:Nat):Int))/\((inK .i64 (s.1.2.1+1))/\(next (((),((s.1.2.1+1),())),((s.2.1.1,(s.2.1.2.1,(IntKind.wrap .u64 ((IntKind.wrap .u64 ((IntKind.wrap .u64 (s.2.1.2.2 * 1099511628211))+(IntKind.wrap .u64 (List.getD code s.1.2.1.toNat 0))))+7)))),())))))) (K (s.2.1,()))))))))) (((),(0,())),((code,(0,(IntKind.wrap .u64 (7019+(IntKind.wrap .u64 ((code.length:Nat):Int)))))),())))
theorem ax4 (x:bi jd.args) (K:ah×Unit->Prop):evF tab (lkp []) (aw [(5,13)]) Try.f75 (aj Try.f75) zx jd x K=qu x.1 K:=by kernel_rfl
theorem al2:okC Try.f75.ntmps (aw [(5,13)]) (aj Try.f75)=true:=by kernel_rfl
theorem awh (code:List Int) (hok:ae (okL jd.args (code,()))) (hpre:ae (jd.pre (code,()))):qu code (fun r=>x9 code r.1):=by
 simp only [jd,okL,T.oks,T.ok,ap,ae,true_and,and_true,implies_true]at hok hpre
 try dsimp only [T.den]at hok
 try dsimp only [T.den]at hpre
 unfold qu x9
 have hl:=hok.1
 rw [fy]at hl
 refine ca (fun (s:brx)=>0<=s.1.2.1/\s.1.2.1<=code.length/\s.2.1.1=code/\s.2.1.2.1=0/\inK .u64 s.2.1.2.2) (fun (s:brx)=>(code.length - s.1.2.1).toNat) ?_ ⟨by simp,by simp,rfl,rfl,y8 _ _⟩
 rintro ⟨⟨_,i,_⟩,⟨c,a,h⟩,_⟩ next ⟨h0,h1,h2,h3,h4⟩ hn _ _ _ _
 try dsimp only at h0 h1 h2 h3 h4 hn ⊢
 subst h2;subst h3
 refine be (fun hc=>?_) (fun _=>⟨?_,Int.le_refl _⟩)
 ·simp only [Bool.and_eq_true,decide_eq_true_eq]at hc
  exact ⟨h0,hc.1,by rw [au];(try dsimp only);omega,hn _ ⟨by dsimp only;omega,by dsimp only;omega,rfl,rfl,y8 _ _⟩ (by first | omega | (dsimp only;omega))⟩
 ·simp only [T.oks,T.ok,ap,ae,and_true]
  exact ⟨hok,by rw [au];(try dsimp only);omega,h4⟩
theorem aem (code:List Int):∃ q:ah×Unit,ae (okL jd.args (code,()))->ae (jd.pre (code,()))->qu code (fun r=>r=q)/\ae (okR jd.rt q)/\x9 code q.1:=
 abv (f:=75) (Φ:=lkp []) ba bo (by kernel_rfl) (fn:=Try.f75) (c:=aj Try.f75) (by kernel_rfl) (by kernel_rfl) (by kernel_rfl) jd zx (aw [(5,13)]) (ot (by kernel_rfl)) (by kernel_rfl) (by kernel_rfl) al2 (by decide) (by kernel_rfl) (fun x K=>qu x.1 K) ax4 (fun x r=>x9 x.1 r.1) (fun x h1 h2=>awh x.1 h1 h2) (code,())
def ao (code:List Int):ah:=(aem code).choose.1
theorem aw7 (code:List Int) (hok:ae (okL jd.args (code,()))) (hpre:ae (jd.pre (code,()))):ae (okR jd.rt (ao code,()))/\x9 code (ao code):=((aem code).choose_spec hok hpre).2
def uf:Ct:=⟨[(.sl (.int .u8))],[false],fun x=>[],[(false,(.pt (.fz bp)))],fun x=>((ao x.1),()),true,none⟩
theorem av3 (x:bi uf.args) (K:ah×Unit->Prop):evF tab (lkp []) (aw [(5,13)]) Try.f75 (aj Try.f75) zx uf x K=qu x.1 K:=by kernel_rfl
theorem aam:dg Try.prog 75 uf:=
 d7 (Φ:=lkp []) ba bo (by kernel_rfl) (fn:=Try.f75) (c:=aj Try.f75) (by kernel_rfl) (by kernel_rfl) (by kernel_rfl) uf rfl zx (aw [(5,13)]) (by kernel_rfl) (by kernel_rfl) al2 (by decide) (fun x K=>qu x.1 K) av3 (fun x h1 h2=>((aem x.1).choose_spec h1 h2).1)
theorem bjk {code:List Int} (h:ae ((T.sl (.int .u8)).oks code)):ck (ao code):=
 (aw7 code (by simpa only [jd,okL,lh,ae,and_true]using h) trivial).2
def ff:Wt:=⟨(.pt (.fz bp)),[(.sl (.int .i64))],[false],fun x y=>[ck x,1<=y.1.length],fun x _=>x,[(false,(.fz (.int .i64)))],fun _ _=>dfR _⟩
def xv (s:ah) (list:List Int) (z:ah) (r0:Int):Prop:=ck z/\r0 ∈ list
def ua (s:ah) (list:List Int) (K:ah->(Int×Unit)->Prop):Prop:=((0<=s.2.1)/\((0<=(ab s ((list.length:Nat):Int)))/\(((ab s ((list.length:Nat):Int)) < ((list.length:Nat):Int))/\(K (aa s ((list.length:Nat):Int)) ((List.getD list (Int.toNat (ab s ((list.length:Nat):Int))) 0),())))))
theorem ayo (x:ff.o.strip.den) (y:bi ff.as) (K:ah->(Int×Unit)->Prop):pc tab (lkp [(79,ez)]) (aw []) Try.f84 (aj Try.f84) .n ff x y K=ua x y.1 K:=by kernel_rfl
theorem ala:okC Try.f84.ntmps (aw []) (aj Try.f84)=true:=by kernel_rfl
theorem aw5 (s:ah) (list:List Int) (hok:ae (ff.o.strip.oks s)) (hok2:ae (okL ff.as (list,()))) (hpre:ae (ff.pre s (list,()))):ua s list (fun z r=>xv s list z r.1):=by
 simp only [ff,O.strip,okL,T.oks,T.ok,ap,ae,true_and,and_true,implies_true]at hok hok2 hpre
 try dsimp only [T.den]at hok
 try dsimp only [T.den]at hok2
 try dsimp only [T.den]at hpre
 unfold ua xv
 obtain ⟨hs,hl⟩:=hpre
 have h0:=hok2.1
 rw [fy]at h0
 obtain ⟨h1,h2,h3,_⟩:=je (n:=list.length) hs (by rw [au];(try dsimp only);omega)
 have h4:=h3 (by omega)
 exact ⟨hs.2,h2,h4,h1,gf list 0 h2 h4⟩
theorem abc (s:ah) (list:List Int):∃ q:ah×(Int×Unit),ae (ff.o.strip.oks s)->ae (okL ff.as (list,()))->ae (ff.pre s (list,()))->ua s list (fun z r=>z=q.1/\r=q.2)/\ae (ff.o.strip.oks q.1)/\ae (okR ff.rt q.2)/\xv s list q.1 q.2.1:=
 xk (f:=84) (Φ:=lkp [(79,ez)]) (am du ba) bo (by kernel_rfl) (fn:=Try.f84) (c:=aj Try.f84) (by kernel_rfl) (by kernel_rfl) (by kernel_rfl) ff .n (aw []) (ot (by kernel_rfl)) (by kernel_rfl) (by kernel_rfl) ala (by decide) (by kernel_rfl) (by kernel_rfl) bp rfl (by kernel_rfl) (fun x y K=>ua x y.1 K) ayo (fun x y z r=>xv x y.1 z r.1) (fun x y h1 h2 h3=>aw5 x y.1 h1 h2 h3) s (list,())
def sg (s:ah) (list:List Int):ah:=(abc s list).choose.1
def ma (s:ah) (list:List Int):Int:=(abc s list).choose.2.1
theorem aw0 (s:ah) (list:List Int) (hok:ae (ff.o.strip.oks s)) (hok2:ae (okL ff.as (list,()))) (hpre:ae (ff.pre s (list,()))):ae (ff.o.strip.oks (sg s list))/\ae (okR ff.rt (ma s list,()))/\xv s list (sg s list) (ma s list):=((abc s list).choose_spec hok hok2 hpre).2
def vy:Wt:=⟨(.pt (.fz bp)),[(.sl (.int .i64))],[false],fun x y=>[ck x,1<=y.1.length],fun x y=>(sg x y.1),[(false,(.fz (.int .i64)))],fun x y=>((ma x y.1),())⟩
def abw:Ct:=ac8 vy
theorem avj (x:vy.o.strip.den) (y:bi vy.as) (K:ah->(Int×Unit)->Prop):pc tab (lkp [(79,ez)]) (aw []) Try.f84 (aj Try.f84) .n vy x y K=ua x y.1 K:=by kernel_rfl
theorem sf:dg Try.prog 84 abw:=
 acx (Φ:=lkp [(79,ez)]) (am du ba) bo (by kernel_rfl) (fn:=Try.f84) (c:=aj Try.f84) (by kernel_rfl) (by kernel_rfl) (by kernel_rfl) vy .n (aw []) (by kernel_rfl) (by kernel_rfl) ala (by decide) (by kernel_rfl) (fun x y h1 h2 h3=>(avj x y _).mpr ((abc x y.1).choose_spec h1 h2 h3).1)
theorem bk3 {s:ah} {l:List Int} (h:ck s) (hl:ae ((T.sl (.int .i64)).oks l)) (hn:1<=l.length):ck (sg s l)/\ma s l ∈ l:=
 (aw0 s l h.1 (by simpa only [ff,okL,lh,ae,and_true]using hl) ⟨h,hn,trivial⟩).2.2
theorem bqq {l:List Int} (h:l.length<=nb) (he:∀ x ∈ l,inK .i64 x):ae ((T.sl (.int .i64)).oks l):=by
 simp only [T.oks,T.ok,ap,ae,and_true]
 exact ⟨h,he⟩
theorem bqm {c:ac} (h0:inK .i64 c.1) (h1:(T.sl (.int .i64)).ok c.2.1) (h2:(T.sl (.int .i64)).ok c.2.2.1) (h3:(T.sl (.int .i64)).ok c.2.2.2.1) (h4:(T.sl (.sl (.int .i64))).ok c.2.2.2.2):ae (T.oks bj c):=by
 simpa only [T.oks,T.ok,ap,ae,and_true]using ⟨h0,h1,h2,h3,h4⟩
def d4:Ct:=⟨[(.sl (.int .u8))],[false],fun x=>[],[(false,(.fz (.int .i64))),(false,(.sl (.fz (.int .i64)))),(false,(.sl (.fz (.int .i64))))],fun _=>dfR _,false,none⟩
def l9 (code:List Int) (r0:Int) (r1:List Int) (r2:List Int):Prop:=r1.length<=8/\r2.length<=8
def pz:Ann:=(.s .n (.s .n (.s .n (.s .n (.s (.s .n (.l [(5,(.ad 101300 [.de])),(7,(.ref 800007 [])),(8,(.ref 800008 [])),(9,(.d (.int .i64)))] [(101300,(.pt (.fz (.p (.sl (.int .u8)) (.p (.int .i64) (.int .u64)))))),(800007,(.sl (.fz (.int .i64)))),(800008,(.sl (.fz (.int .i64))))] [6] (.s .n (.s (.s .n (.s (.s .n (.j [(5,(.ad 101300 [.de])),(7,(.ref 800007 [])),(8,(.ref 800008 [])),(10,(.d (.int .i64))),(11,(.d (.int .i64)))] [(101300,(.pt (.fz (.p (.sl (.int .u8)) (.p (.int .i64) (.int .u64)))))),(800007,(.sl (.fz (.int .i64)))),(800008,(.sl (.fz (.int .i64))))] [6,9] .n)) (.s .n (.j [(5,(.ad 101300 [.de])),(7,(.ref 800007 [])),(8,(.ref 800008 []))] [(101300,(.pt (.fz (.p (.sl (.int .u8)) (.p (.int .i64) (.int .u64)))))),(800007,(.sl (.fz (.int .i64)))),(800008,(.sl (.fz (.int .i64))))] [6,9] .n)))) .n)))) (.s (.s .n (.s .n (.j [(6,(.d (.int .i64))),(7,(.ref 800007 [])),(8,(.ref 800008 []))] [(800007,(.sl (.fz (.int .i64)))),(800008,(.sl (.fz (.int .i64))))] [] (.s .n (.s .n (.j [(6,(.d (.int .i64))),(7,(.ref 800007 [])),(8,(.ref 800008 []))] [(800007,(.sl (.fz (.int .i64)))),(800008,(.sl (.fz (.int .i64))))] [] (.s .n (.s .n (.j [(7,(.ref 800007 [])),(8,(.ref 800008 []))] [(800007,(.sl (.fz (.int .i64)))),(800008,(.sl (.fz (.int .i64))))] [6] .n))))))))) .n))))))
def p9:FuncId->Option Ct:=lkp [(75,uf),(79,ez),(84,abw)]
def kh (code:List Int) (K:Int×(List Int)×(List Int)×Unit->Prop):Prop:=((0<=(ao code).2.1)/\((inK .i64 (1+(ab (ao code) 5)))/\((0<=(aa (ao code) 5).2.1)/\(bu (S:=((Unit×brc)×(brd×brs))) (fun s=>(fun next=>((inK .i64 s.1.2.2.2.1)->((T.ok (.sl (.int .u8)) s.2.1.1)->((inK .i64 s.2.1.2.1)->((inK .u64 s.2.1.2.2)->((T.ok (.sl (.int .i64)) s.2.2.1)->((T.ok (.sl (.int .i64)) s.2.2.2.1)->(cnd (decide (0 < s.1.2.2.2.1)) ((0<=s.2.1.2.1)/\((0<=(aa s.2.1 (1+(ab (ao code) 5))).2.1)/\((0<=(aa (aa s.2.1 (1+(ab (ao code) 5))) (1+(ab (ao code) 5))).2.1)/\(fk (S:=(bru×(brd×brs))) (fun s1=>((inK .i64 s1.1.2.2.2.1)->((inK .i64 s1.1.2.2.2.2.1)->((T.ok (.sl (.int .u8)) s1.2.1.1)->((inK .i64 s1.2.1.2.1)->((inK .u64 s1.2.1.2.2)->((T.ok (.sl (.int .i64)) s1.2.2.1)->((T.ok (.sl (.int .i64)) s1.2.2.2.1)->(ifP ((s1.1.2.2.2.1 != s1.1.2.2.2.2.1)=false) ((0<=s1.2.1.2.1)/\(fk (S:=((Unit×brp)×(brd×brs))) (fun s2=>((T.ok (.sl (.int .u8)) s2.2.1.1)->((inK .i64 s2.2.1.2.1)->((inK .u64 s2.2.1.2.2)->((T.ok (.sl (.int .i64)) s2.2.2.1)->((T.ok (.sl (.int .i64)) s2.2.2.2.1)->((inK .i64 (s.1.2.2.2.1 - 1))/\(next (((),((),((),((s.1.2.2.2.1 - 1),())))),(s2.2.1,(s2.2.2.1,(s2.2.2.2.1,())))))))))))) (fun k=>(cnd ((s1.1.2.2.2.1 != s1.1.2.2.2.2.1) || ((ab s1.2.1 12) == 0)) ((fg s1.2.2.1.length (List.length (s1.1.2.2.2.1::[])) 8)/\((fg s1.2.2.2.1.length (List.length (s1.1.2.2.2.2.1::[])) 8)/\(k (((),((),((),()))),((aa s1.2.1 12),((s1.2.2.1++(s1.1.2.2.2.1::[])),((s1.2.2.2.1++(s1.1.2.2.2.2.1::[])),()))))))) (k (((),((),((),()))),((aa s1.2.1 12),(s1.2.2.1,(s1.2.2.2.1,()))))))))) (fk (S:=((Unit×brp)×(brd×brs))) (fun s2=>((T.ok (.sl (.int .u8)) s2.2.1.1)->((inK .i64 s2.2.1.2.1)->((inK .u64 s2.2.1.2.2)->((T.ok (.sl (.int .i64)) s2.2.2.1)->((T.ok (.sl (.int .i64)) s2.2.2.2.1)->((inK .i64 (s.1.2.2.2.1 - 1))/\(next (((),((),((),((s.1.2.2.2.1 - 1),())))),(s2.2.1,(s2.2.2.1,(s2.2.2.2.1,())))))))))))) (fun k=>(cnd ((s1.1.2.2.2.1 != s1.1.2.2.2.2.1) || ((0:Int) == 0)) ((fg s1.2.2.1.length (List.length (s1.1.2.2.2.1::[])) 8)/\((fg s1.2.2.2.1.length (List.length (s1.1.2.2.2.2.1::[])) 8)/\(k (((),((),((),()))),(s1.2.1,((s1.2.2.1++(s1.1.2.2.2.1::[])),((s1.2.2.2.1++(s1.1.2.2.2.2.1::[])),()))))))) (k (((),((),((),()))),(s1.2.1,(s1.2.2.1,(s1.2.2.2.1,()))))))))))))))))) (fun k=>(cnd (decide (0 < (ab (aa (aa s.2.1 (1+(ab (ao code) 5))) (1+(ab (ao code) 5))) 12))) (k (((),((),((),((mnR (ab s.2.1 (1+(ab (ao code) 5))) (ab (aa s.2.1 (1+(ab (ao code) 5))) (1+(ab (ao code) 5)))),((mxR (ab s.2.1 (1+(ab (ao code) 5))) (ab (aa s.2.1 (1+(ab (ao code) 5))) (1+(ab (ao code) 5)))),()))))),((aa (aa (aa s.2.1 (1+(ab (ao code) 5))) (1+(ab (ao code) 5))) 12),(s.2.2.1,(s.2.2.2.1,()))))) (k (((),((),((),((ab s.2.1 (1+(ab (ao code) 5))),((ab (aa s.2.1 (1+(ab (ao code) 5))) (1+(ab (ao code) 5))),()))))),((aa (aa (aa s.2.1 (1+(ab (ao code) 5))) (1+(ab (ao code) 5))) 12),(s.2.2.1,(s.2.2.2.1,()))))))))))) ((0<=s.2.1.2.1)/\(fk (S:=((Int×brp)×brs)) (fun s1=>((inK .i64 s1.1.1)->((T.ok (.sl (.int .i64)) s1.2.1)->((T.ok (.sl (.int .i64)) s1.2.2.1)->(K (s1.1.1,(s1.2.1,(s1.2.2.1,())))))))) (fun k=>(cnd ((ab s.2.1 24) == 0) ((fg s.2.2.1.length (List.length (0::[])) 8)/\(k (((1+(ab (ao code) 5)),((),((),()))),((s.2.2.1++(0::[])),(s.2.2.2.1,()))))) (fk (S:=((Int×brp)×brs)) (fun s1=>((inK .i64 s1.1.1)->((T.ok (.sl (.int .i64)) s1.2.1)->((T.ok (.sl (.int .i64)) s1.2.2.1)->(k ((s1.1.1,((),((),()))),(s1.2.1,(s1.2.2.1,())))))))) (fun k1=>(cnd ((ab s.2.1 24) == 1) ((ck (aa s.2.1 24))/\((1<=(List.length ((-1)::(9::(0::(8::[]))))))/\(k1 (((ma (aa s.2.1 24) ((-1)::(9::(0::(8::[]))))),((),((),()))),(s.2.2.1,(s.2.2.2.1,())))))) (fk (S:=(brp×brs)) (fun s1=>((T.ok (.sl (.int .i64)) s1.2.1)->((T.ok (.sl (.int .i64)) s1.2.2.1)->(k1 (((1+(ab (ao code) 5)),((),((),()))),(s1.2.1,(s1.2.2.1,()))))))) (fun k2=>(cnd ((ab s.2.1 24) == 2) ((ck (aa s.2.1 24))/\((1<=(List.length ((1+(ab (ao code) 5))::((-1)::[]))))/\((fg s.2.2.1.length (List.length ((ma (aa s.2.1 24) ((1+(ab (ao code) 5))::((-1)::[])))::[])) 8)/\((fg s.2.2.2.1.length (List.length (0::[])) 8)/\(k2 (((),((),())),((s.2.2.1++((ma (aa s.2.1 24) ((1+(ab (ao code) 5))::((-1)::[])))::[])),((s.2.2.2.1++(0::[])),())))))))) (k2 (((),((),())),(s.2.2.1,(s.2.2.2.1,()))))))))))))))))))))))) (((),((),((),((ab (aa (ao code) 5) 7),())))),((aa (aa (ao code) 5) 7),([],([],()))))))))
theorem ajg (x:bi d4.args) (K:Int×(List Int)×(List Int)×Unit->Prop):evF tab p9 (aw [(10,1600)]) Try.f31 (aj Try.f31) pz d4 x K=kh x.1 K:=by kernel_rfl
theorem aby:okC Try.f31.ntmps (aw [(10,1600)]) (aj Try.f31)=true:=by kernel_rfl
theorem aje (code:List Int) (hok:ae (okL d4.args (code,()))) (hpre:ae (d4.pre (code,()))):kh code (fun r=>l9 code r.1 r.2.1 r.2.2.1):=by
 simp only [d4,okL,T.oks,T.ok,ap,ae,true_and,and_true,implies_true]at hok hpre
 try dsimp only [T.den]at hok
 try dsimp only [T.den]at hpre
 unfold kh l9
 have hF:=bjk (code:=code) (by simpa only [T.oks,T.ok,ap,ae,true_and,and_true,implies_true]using hok)
 clear hok
 generalize ao code=s0 at *
 have h1:=je (n:=5) hF (by rw [au];(try dsimp only);omega)
 have h1b:=h1.2.2.1 (by omega)
 have h2:=je (n:=7) h1.1 (by rw [au];(try dsimp only);omega)
 have h2b:=h2.2.2.1 (by omega)
 have hn:inK .i64 (1+ab s0 5):=by rw [au];(try dsimp only);omega
 refine ⟨hF.2,hn,h1.1.2,?_⟩
 generalize 1+ab s0 5=n at *
 refine ca (fun (s:((Unit×brc)×(brd×brs)))=>0<=s.1.2.2.2.1/\ck s.2.1/\s.2.2.2.1.length=s.2.2.1.length/\(s.2.2.1.length:Int)+s.1.2.2.2.1<=6) (fun (s:((Unit×brc)×(brd×brs)))=>s.1.2.2.2.1.toNat) ?_ ⟨h2.2.1,h2.1,rfl,by dsimp only;simp only [List.length_nil];omega⟩
 rintro ⟨⟨_,_,_,k,_⟩,src,fr,to,_⟩ next ⟨k0,hS,hl,hk⟩ hnx
 intros
 try dsimp only at k0 hS hl hk hnx ⊢
 refine bf (fun hc=>?_) (fun hc=>?_)
 ·have z1:=je (n:=n) hS hn
  have z2:=je (n:=n) z1.1 hn
  have z3:=je (n:=12) z2.1 (by rw [au];(try dsimp only);omega)
  refine ⟨hS.2,z1.1.2,z2.1.2,dn (fun (q:(bru×(brd×brs)))=>ck q.2.1/\q.2.2.1=fr/\q.2.2.2.1=to) ?_ (fun k hk=>be (fun _=>hk _ ⟨z3.1,rfl,rfl⟩) (fun _=>hk _ ⟨z3.1,rfl,rfl⟩))⟩
  rintro ⟨⟨_,_,_,x,y,_⟩,src2,fr2,to2,_⟩ ⟨p1,p2,p3⟩
  intros
  try dsimp only at p1 p2 p3 ⊢
  subst p2;subst p3
  have z4:=je (n:=12) p1 (by rw [au];(try dsimp only);omega)
  refine ⟨fun _=>⟨p1.2,dn (fun (q:((Unit×brp)×(brd×brs)))=>ck q.2.1/\q.2.2.2.1.length=q.2.2.1.length/\q.2.2.1.length<=fr2.length+1) ?_ (fun k hk=>be (fun _=>⟨cw (by simp only [List.length_cons,List.length_nil];omega),cw (by simp only [List.length_cons,List.length_nil];omega),hk _ ⟨z4.1,by simp [hl],by simp⟩⟩) (fun _=>hk _ ⟨z4.1,hl,by simp⟩))⟩,fun _=>dn (fun (q:((Unit×brp)×(brd×brs)))=>ck q.2.1/\q.2.2.2.1.length=q.2.2.1.length/\q.2.2.1.length<=fr2.length+1) ?_ (fun k hk=>be (fun _=>⟨cw (by simp only [List.length_cons,List.length_nil];omega),cw (by simp only [List.length_cons,List.length_nil];omega),hk _ ⟨p1,by simp [hl],by simp⟩⟩) (fun _=>hk _ ⟨p1,hl,by simp⟩))⟩
  ·rintro ⟨_,src3,fr3,to3,_⟩ ⟨g1,g2,g3⟩
   intros
   try dsimp only at g1 g2 g3 ⊢
   exact ⟨by rw [au];(try dsimp only);omega,hnx _ ⟨by dsimp only;omega,g1,g2,by dsimp only;omega⟩ (by dsimp only;omega)⟩
  ·rintro ⟨_,src3,fr3,to3,_⟩ ⟨g1,g2,g3⟩
   intros
   try dsimp only at g1 g2 g3 ⊢
   exact ⟨by rw [au];(try dsimp only);omega,hnx _ ⟨by dsimp only;omega,g1,g2,by dsimp only;omega⟩ (by dsimp only;omega)⟩
 ·have z:=je (n:=24) hS (by rw [au];(try dsimp only);omega)
  refine ⟨hS.2,dn (fun (q:((Int×brp)×brs))=>q.2.1.length<=8/\q.2.2.1.length<=8) (fun q hq=>by intros;exact hq) (fun k1 hk1=>be (fun _=>⟨cw (by simp only [List.length_cons,List.length_nil];omega),hk1 _ ⟨by dsimp only;simp only [List.length_append,List.length_cons,List.length_nil];omega,by dsimp only;omega⟩⟩) (fun _=>dn (fun (q:((Int×brp)×brs))=>q.2.1.length<=8/\q.2.2.1.length<=8) (fun q hq=>by intros;exact hk1 _ hq) (fun k2 hk2=>be (fun _=>⟨z.1,by simp,hk2 _ ⟨by dsimp only;omega,by dsimp only;omega⟩⟩) (fun _=>dn (fun (q:(brp×brs))=>q.2.1.length<=8/\q.2.2.1.length<=8) (fun q hq=>by intros;exact hk2 _ hq) (fun k3 hk3=>be (fun _=>⟨z.1,by simp,cw (by simp only [List.length_cons,List.length_nil];omega),cw (by simp only [List.length_cons,List.length_nil];omega),hk3 _ ⟨by dsimp only;simp only [List.length_append,List.length_cons,List.length_nil];omega,by dsimp only;simp only [List.length_append,List.length_cons,List.length_nil];omega⟩⟩) (fun _=>hk3 _ ⟨by dsimp only;omega,by dsimp only;omega⟩))))))⟩
theorem nw (code:List Int):∃ q:Int×(List Int)×(List Int)×Unit,ae (okL d4.args (code,()))->ae (d4.pre (code,()))->kh code (fun r=>r=q)/\ae (okR d4.rt q)/\l9 code q.1 q.2.1 q.2.2.1:=
 abv (f:=31) (Φ:=p9) (am aam (am du (am sf ba))) bo (by kernel_rfl) (fn:=Try.f31) (c:=aj Try.f31) (by kernel_rfl) (by kernel_rfl) (by kernel_rfl) d4 pz (aw [(10,1600)]) (ot (by kernel_rfl)) (by kernel_rfl) (by kernel_rfl) aby (by decide) (by kernel_rfl) (fun x K=>kh x.1 K) ajg (fun x r=>l9 x.1 r.1 r.2.1 r.2.2.1) (fun x h1 h2=>aje x.1 h1 h2) (code,())
def d8 (code:List Int):Int:=(nw code).choose.1
def cr (code:List Int):List Int:=(nw code).choose.2.1
def d9 (code:List Int):List Int:=(nw code).choose.2.2.1
theorem aja (code:List Int) (hok:ae (okL d4.args (code,()))) (hpre:ae (d4.pre (code,()))):ae (okR d4.rt (d8 code,cr code,d9 code,()))/\l9 code (d8 code) (cr code) (d9 code):=((nw code).choose_spec hok hpre).2
def nu:Ct:=⟨[(.sl (.int .u8))],[false],fun x=>[],[(false,(.fz (.int .i64))),(false,(.sl (.fz (.int .i64)))),(false,(.sl (.fz (.int .i64))))],fun x=>((d8 x.1),(cr x.1),(d9 x.1),()),false,none⟩
theorem aia (x:bi nu.args) (K:Int×(List Int)×(List Int)×Unit->Prop):evF tab p9 (aw [(10,1600)]) Try.f31 (aj Try.f31) pz nu x K=kh x.1 K:=by kernel_rfl
theorem aim:dg Try.prog 31 nu:=
 d7 (Φ:=p9) (am aam (am du (am sf ba))) bo (by kernel_rfl) (fn:=Try.f31) (c:=aj Try.f31) (by kernel_rfl) (by kernel_rfl) (by kernel_rfl) nu rfl pz (aw [(10,1600)]) (by kernel_rfl) (by kernel_rfl) aby (by decide) (fun x K=>kh x.1 K) aia (fun x h1 h2=>((nw x.1).choose_spec h1 h2).1)
structure OwnP (l:List (List Int)):Prop where
 n:l.length<=1099511627776
 e:∀ r ∈ l,r.length<=1099511627776
def kp:Ct:=⟨[(.sl (.sl (.int .i64)))],[false],fun x=>[OwnP x.1],[(false,(.sl (.sl (.fz (.int .i64)))))],fun x=>(x.1,()),false,none⟩
def ajp:Ann:=(.s .n (.s .n (.s (.s .n (.l [(3,(.ref 800003 [])),(4,(.d (.int .i64)))] [(800003,(.sl (.sl (.fz (.int .i64)))))] [0] .n)) .n)))
def abf (lists:List (List Int)) (K:brt×Unit->Prop):Prop:=(bu (S:=(brh×brj)) (fun s=>(fun next=>((inK .i64 s.1.2.1)->((T.ok (.sl (.sl (.int .i64))) s.2.1)->(cnd (decide (s.1.2.1 < ((lists.length:Nat):Int))) ((0<=s.1.2.1)/\((s.1.2.1 < ((lists.length:Nat):Int))/\(((List.length (List.getD lists s.1.2.1.toNat []))<=1099511627776)/\((fg s.2.1.length (List.length ((List.getD lists s.1.2.1.toNat [])::[])) 24)/\((inK .i64 (s.1.2.1+1))/\(next (((),((s.1.2.1+1),())),((s.2.1++((List.getD lists s.1.2.1.toNat [])::[])),())))))))) (K (s.2.1,()))))))) (((),(0,())),([],())))
theorem axe (x:bi kp.args) (K:brt×Unit->Prop):evF tab (lkp [(59,jr)]) (aw []) Try.f155 (aj Try.f155) ajp kp x K=abf x.1 K:=by kernel_rfl
theorem aww:okC Try.f155.ntmps (aw []) (aj Try.f155)=true:=by kernel_rfl
theorem ayl (lists:List (List Int)) (hok:ae (okL kp.args (lists,()))) (hpre:ae (kp.pre (lists,()))):abf lists (fun r=>r=kp.res (lists,())):=by
 simp only [kp,okL,T.oks,T.ok,ap,ae,true_and,and_true,implies_true]at hok hpre
 try dsimp only [T.den]at hok
 try dsimp only [T.den]at hpre
 unfold abf
 have h1:=hpre.n
 have h2:=hpre.e
 clear hok
 refine uq (fun i=>lists.take i.toNat) (n:=lists.length) (by omega) rfl ?_ ?_
 ·intro i next i0 i1 hn _ _
  try dsimp only at hn ⊢
  rw [af3 lists [] i0 i1]at hn
  exact bf (fun _=>⟨i0,i1,h2 _ (gf lists [] i0 i1),cw (by rw [List.length_take];simp only [List.length_cons,List.length_nil];omega),by rw [au];(try dsimp only);omega,hn⟩) (fun h=>absurd i1 h)
 ·intro next _ _
  refine bf (fun h=>absurd h (Int.lt_irrefl _)) (fun _=>?_)
  simp only [kp]
  rw [ak5 _ (Int.le_refl _)]
theorem aj4:dg Try.prog 155 kp:=
 d7 (Φ:=lkp [(59,jr)]) (am xh ba) bo (by kernel_rfl) (fn:=Try.f155) (c:=aj Try.f155) (by kernel_rfl) (by kernel_rfl) (by kernel_rfl) kp rfl ajp (aw []) (by kernel_rfl) (by kernel_rfl) aww (by decide) (fun x K=>abf x.1 K) axe (fun x h1 h2=>ayl x.1 h1 h2)
def afn (t:List (List Int)):ac:=(1,(List.replicate t.length 0,(List.replicate t.length 0,([0],t))))
structure CgR (b:Int) (c:ac):Prop where
 b1:1<=b
 ob0:0<=c.1
 ob:c.1<=b
 m:(c.2.1.length:Int)<=b
 lt:c.2.2.1.length=c.2.1.length
 li:(c.2.2.2.1.length:Int)=c.1
 lc:c.2.2.2.2.length=c.2.1.length
 fr:∀ x ∈ c.2.1,0<=x/\x<=b
 to:∀ x ∈ c.2.2.1,0<=x/\x<=b
 id:∀ x ∈ c.2.2.2.1,0<=x/\x<=b
 row:∀ r ∈ c.2.2.2.2,r.length=c.2.1.length/\∀ x ∈ r,-b<=x/\x<=b
theorem CgR.le {a b:Int} {c:ac} (h:CgR a c) (hab:a<=b):CgR b c:=
 ⟨by have:=h.b1;omega,h.ob0,by have:=h.ob;omega,by have:=h.m;omega,h.lt,h.li,h.lc,fun x hx=>by have:=h.fr x hx;omega,fun x hx=>by have:=h.to x hx;omega,fun x hx=>by have:=h.id x hx;omega,
  fun r hr=>⟨(h.row r hr).1,fun x hx=>by have:=(h.row r hr).2 x hx;omega⟩⟩
theorem CgR.frG {b:Int} {c:ac} (h:CgR b c) {f:Int} (f0:0<=f) (f1:f < c.2.1.length):0<=c.2.1.getD f.toNat 0/\c.2.1.getD f.toNat 0<=b:=h.fr _ (gf c.2.1 0 f0 f1)
theorem CgR.toG {b:Int} {c:ac} (h:CgR b c) {f:Int} (f0:0<=f) (f1:f < c.2.1.length):0<=c.2.2.1.getD f.toNat 0/\c.2.2.1.getD f.toNat 0<=b:=h.to _ (gf c.2.2.1 0 f0 (by rw [h.lt];exact f1))
theorem CgR.idG {b:Int} {c:ac} (h:CgR b c) {x:Int} (f0:0<=x) (f1:x < c.1):0<=c.2.2.2.1.getD x.toNat 0/\c.2.2.2.1.getD x.toNat 0<=b:=h.id _ (gf c.2.2.2.1 0 f0 (by have:=h.li;omega))
theorem CgR.rowG {b:Int} {c:ac} (h:CgR b c) {f:Int} (f0:0<=f) (f1:f < c.2.1.length):(c.2.2.2.2.getD f.toNat []).length=c.2.1.length:=(h.row _ (gf c.2.2.2.2 [] f0 (by rw [h.lc];exact f1))).1
theorem CgR.cel {b:Int} {c:ac} (h:CgR b c) {f g:Int} (f0:0<=f) (f1:f < c.2.1.length) (g0:0<=g) (g1:g < c.2.1.length):-b<=(c.2.2.2.2.getD f.toNat []).getD g.toNat 0/\(c.2.2.2.2.getD f.toNat []).getD g.toNat 0<=b:=
 (h.row _ (gf c.2.2.2.2 [] f0 (by rw [h.lc];exact f1))).2 _ (gf _ 0 g0 (by rw [h.rowG f0 f1];exact g1))
theorem bop {t:List (List Int)} (h0:1<=t.length) (h8:t.length<=8) (hr:∀ r ∈ t,r.length=t.length) (he:∀ r ∈ t,∀ x ∈ r,0<=x/\x<=8):CgR 8 (afn t):=
 ⟨by omega,Int.le.intro 1 rfl,by show (1:Int)<=8;omega,by show ((List.replicate t.length (0:Int)).length:Int)<=8;rw [List.length_replicate];omega,rfl,rfl,by show t.length=(List.replicate t.length (0:Int)).length;rw [List.length_replicate],
  fun x hx=>by rw [List.eq_of_mem_replicate hx];omega,fun x hx=>by rw [List.eq_of_mem_replicate hx];omega,fun x hx=>by rw [List.mem_singleton.1 hx];omega,
  fun r hr'=>⟨by show r.length=(List.replicate t.length (0:Int)).length;rw [List.length_replicate];exact hr r hr',fun x hx=>by have:=he r hr' x hx;omega⟩⟩
def kz:Ct:=⟨[(.sl (.sl (.int .i64)))],[false],fun x=>[OwnP x.1],[(true,ku)],fun x=>(afn x.1,()),false,none⟩
def y5 (table:List (List Int)) (K:ac×Unit->Prop):Prop:=((0<=((table.length:Nat):Int))/\((((table.length:Nat):Int)<=((table.length:Nat):Int))/\((((table.length:Nat):Int)<=((140737488355328:Nat):Int))/\(((((table.length:Nat):Int) * ((8:Nat):Int))<=((140737488355328:Nat):Int))/\((0<=((table.length:Nat):Int))/\((((table.length:Nat):Int)<=((table.length:Nat):Int))/\((((table.length:Nat):Int)<=((140737488355328:Nat):Int))/\(((((table.length:Nat):Int) * ((8:Nat):Int))<=((140737488355328:Nat):Int))/\((OwnP table)/\(K ((1,((List.replicate (Int.toNat ((table.length:Nat):Int)) (0:Int)),((List.replicate (Int.toNat ((table.length:Nat):Int)) (0:Int)),((0::[]),table)))),())))))))))))
theorem as7 (x:bi kz.args) (K:ac×Unit->Prop):evF tab (lkp [(155,kp)]) (aw [(2,507)]) Try.f151 (aj Try.f151) .n kz x K=y5 x.1 K:=by kernel_rfl
theorem atk:okC Try.f151.ntmps (aw [(2,507)]) (aj Try.f151)=true:=by kernel_rfl
theorem atm (table:List (List Int)) (hok:ae (okL kz.args (table,()))) (hpre:ae (kz.pre (table,()))):y5 table (fun r=>r=kz.res (table,())):=by
 simp only [kz,okL,T.oks,T.ok,ap,ae,true_and,and_true,implies_true]at hok hpre
 try dsimp only [T.den]at hok
 try dsimp only [T.den]at hpre
 unfold y5
 have hl:=hpre.n
 refine ⟨by omega,Int.le_refl _,by omega,by omega,by omega,Int.le_refl _,by omega,by omega,hpre,?_⟩
 simp only [kz,afn,Int.toNat_natCast]
theorem ag9:dg Try.prog 151 kz:=
 d7 (Φ:=lkp [(155,kp)]) (am aj4 ba) bo (by kernel_rfl) (fn:=Try.f151) (c:=aj Try.f151) (by kernel_rfl) (by kernel_rfl) (by kernel_rfl) kz rfl .n (aw [(2,507)]) (by kernel_rfl) (by kernel_rfl) atk (by decide) (fun x K=>y5 x.1 K) as7 (fun x h1 h2=>atm x.1 h1 h2)
structure OwcR (c:ac):Prop where
 a:c.2.1.length<=1099511627776
 b:c.2.2.1.length<=1099511627776
 d:c.2.2.2.1.length<=1099511627776
 e:OwnP c.2.2.2.2
theorem bjq {b:Int} {c:ac} (h:CgR b c) (hb:b<=1000000000000):OwcR c:=by
 have h1:=h.m
 have h2:=h.lt
 have h3:=h.li
 have h4:=h.ob
 have h5:=h.lc
 exact ⟨by omega,by omega,by omega,⟨by omega,fun r hr=>by have:=(h.row r hr).1;omega⟩⟩
def kj:Ct:=⟨[bj],[true],fun x=>[OwcR x.1],[(true,ku)],fun x=>(x.1,()),false,none⟩
def alq:FuncId->Option Ct:=lkp [(59,jr),(155,kp)]
def acu (c:ac) (K:ac×Unit->Prop):Prop:=((c.2.1.length<=1099511627776)/\((c.2.2.1.length<=1099511627776)/\((c.2.2.2.1.length<=1099511627776)/\((OwnP c.2.2.2.2)/\(K (c,()))))))
theorem baa (x:bi kj.args) (K:ac×Unit->Prop):evF tab alq (aw [(1,514)]) Try.f141 (aj Try.f141) .n kj x K=acu x.1 K:=by kernel_rfl
theorem azv:okC Try.f141.ntmps (aw [(1,514)]) (aj Try.f141)=true:=by kernel_rfl
theorem bam (c:ac) (hok:ae (okL kj.args (c,()))) (hpre:ae (kj.pre (c,()))):acu c (fun r=>r=kj.res (c,())):=by
 simp only [kj,okL,T.oks,T.ok,ap,ae,true_and,and_true,implies_true]at hok hpre
 try dsimp only [T.den]at hok
 try dsimp only [T.den]at hpre
 unfold acu
 exact ⟨hpre.a,hpre.b,hpre.d,hpre.e,rfl⟩
theorem abs:dg Try.prog 141 kj:=
 d7 (Φ:=alq) (am xh (am aj4 ba)) bo (by kernel_rfl) (fn:=Try.f141) (c:=aj Try.f141) (by kernel_rfl) (by kernel_rfl) (by kernel_rfl) kj rfl .n (aw [(1,514)]) (by kernel_rfl) (by kernel_rfl) azv (by decide) (fun x K=>acu x.1 K) baa (fun x h1 h2=>bam x.1 h1 h2)
def fq:Wt:=⟨(.pt (.fz bp)),[bj],[true],fun x y=>[ck x,CgR 1000000000 y.1],fun x _=>x,[(true,(.fz bj))],fun _ _=>dfR _⟩
def x7 (s:ah) (c:ac) (z:ah) (r0:ac):Prop:=ck z/\r0.2.1.length<=c.2.1.length+1
def zw:Ann:=(.s .n (.s .n (.s .n (.s .n (.s (.s .n (.s .n (.j [(0,(.ad 1000000 [.de])),(3,(.ad 3 [.de])),(4,(.ad 4 [.de]))] [(1000000,(.pt (.fz (.p (.sl (.int .u8)) (.p (.int .i64) (.int .u64)))))),(3,(.pt (.p (.fz (.int .i64)) (.p (.sl (.fz (.int .i64))) (.p (.sl (.fz (.int .i64))) (.p (.sl (.fz (.int .i64))) (.sl (.fz (.sl (.int .i64)))))))))),(4,(.pt (.p (.fz (.int .i64)) (.p (.sl (.fz (.int .i64))) (.p (.sl (.fz (.int .i64))) (.p (.sl (.fz (.int .i64))) (.sl (.sl (.fz (.int .i64))))))))))] [] (.s .n (.s .n (.j [(0,(.ad 1000000 [.de])),(3,(.ad 3 [.de])),(4,(.ad 4 [.de]))] [(1000000,(.pt (.fz (.p (.sl (.int .u8)) (.p (.int .i64) (.int .u64)))))),(3,(.pt (.p (.fz (.int .i64)) (.p (.sl (.fz (.int .i64))) (.p (.sl (.fz (.int .i64))) (.p (.sl (.fz (.int .i64))) (.sl (.fz (.sl (.int .i64)))))))))),(4,(.pt (.p (.fz (.int .i64)) (.p (.sl (.fz (.int .i64))) (.p (.sl (.fz (.int .i64))) (.p (.sl (.fz (.int .i64))) (.sl (.sl (.fz (.int .i64))))))))))] [] (.s .n (.s .n (.j [(0,(.ad 1000000 [.de])),(3,(.ad 3 [.de])),(4,(.ad 4 [.de]))] [(1000000,(.pt (.fz (.p (.sl (.int .u8)) (.p (.int .i64) (.int .u64)))))),(3,(.pt (.p (.fz (.int .i64)) (.p (.sl (.fz (.int .i64))) (.p (.sl (.fz (.int .i64))) (.p (.sl (.fz (.int .i64))) (.sl (.fz (.sl (.int .i64)))))))))),(4,(.pt (.p (.fz (.int .i64)) (.p (.sl (.fz (.int .i64))) (.p (.sl (.fz (.int .i64))) (.p (.sl (.fz (.int .i64))) (.sl (.sl (.fz (.int .i64))))))))))] [] (.s (.s .n (.j [(0,(.ad 1000000 [.de])),(3,(.ad 3 [.de])),(4,(.ad 4 [.de]))] [(1000000,(.pt (.fz (.p (.sl (.int .u8)) (.p (.int .i64) (.int .u64)))))),(3,(.pt (.p (.fz (.int .i64)) (.p (.sl (.fz (.int .i64))) (.p (.sl (.fz (.int .i64))) (.p (.sl (.fz (.int .i64))) (.sl (.sl (.fz (.int .i64)))))))))),(4,(.pt (.p (.fz (.int .i64)) (.p (.sl (.fz (.int .i64))) (.p (.sl (.fz (.int .i64))) (.p (.sl (.fz (.int .i64))) (.sl (.sl (.fz (.int .i64))))))))))] [] .n)) (.s (.s .n (.j [(0,(.ad 1000000 [.de])),(3,(.ad 3 [.de])),(4,(.ad 4 [.de])),(58,(.d .bool))] [(1000000,(.pt (.fz (.p (.sl (.int .u8)) (.p (.int .i64) (.int .u64)))))),(3,(.pt (.p (.fz (.int .i64)) (.p (.sl (.fz (.int .i64))) (.p (.sl (.fz (.int .i64))) (.p (.sl (.fz (.int .i64))) (.sl (.sl (.fz (.int .i64)))))))))),(4,(.pt (.p (.fz (.int .i64)) (.p (.sl (.fz (.int .i64))) (.p (.sl (.fz (.int .i64))) (.p (.sl (.fz (.int .i64))) (.sl (.sl (.fz (.int .i64))))))))))] [5,6,16] (.s .n (.s .n (.j [(0,(.ad 1000000 [.de])),(3,(.ad 3 [.de])),(4,(.ad 4 [.de])),(58,(.d .bool))] [(1000000,(.pt (.fz (.p (.sl (.int .u8)) (.p (.int .i64) (.int .u64)))))),(3,(.pt (.p (.fz (.int .i64)) (.p (.sl (.fz (.int .i64))) (.p (.sl (.fz (.int .i64))) (.p (.sl (.fz (.int .i64))) (.sl (.sl (.fz (.int .i64)))))))))),(4,(.pt (.p (.fz (.int .i64)) (.p (.sl (.fz (.int .i64))) (.p (.sl (.fz (.int .i64))) (.p (.sl (.fz (.int .i64))) (.sl (.sl (.fz (.int .i64))))))))))] [5,6,16] .n))))) (.j [(0,(.ad 1000000 [.de])),(3,(.ad 3 [.de])),(4,(.ad 4 [.de]))] [(1000000,(.pt (.fz (.p (.sl (.int .u8)) (.p (.int .i64) (.int .u64)))))),(3,(.pt (.p (.fz (.int .i64)) (.p (.sl (.fz (.int .i64))) (.p (.sl (.fz (.int .i64))) (.p (.sl (.fz (.int .i64))) (.sl (.fz (.sl (.int .i64)))))))))),(4,(.pt (.p (.fz (.int .i64)) (.p (.sl (.fz (.int .i64))) (.p (.sl (.fz (.int .i64))) (.p (.sl (.fz (.int .i64))) (.sl (.sl (.fz (.int .i64))))))))))] [] (.s (.s .n (.j [(0,(.ad 1000000 [.de])),(3,(.ad 3 [.de])),(4,(.ad 4 [.de]))] [(1000000,(.pt (.fz (.p (.sl (.int .u8)) (.p (.int .i64) (.int .u64)))))),(3,(.pt (.p (.fz (.int .i64)) (.p (.sl (.fz (.int .i64))) (.p (.sl (.fz (.int .i64))) (.p (.sl (.fz (.int .i64))) (.sl (.sl (.fz (.int .i64)))))))))),(4,(.pt (.p (.fz (.int .i64)) (.p (.sl (.fz (.int .i64))) (.p (.sl (.fz (.int .i64))) (.p (.sl (.fz (.int .i64))) (.sl (.sl (.fz (.int .i64))))))))))] [] .n)) (.s .n (.j [(0,(.ad 1000000 [.de])),(3,(.ad 3 [.de])),(4,(.ad 4 [.de]))] [(1000000,(.pt (.fz (.p (.sl (.int .u8)) (.p (.int .i64) (.int .u64)))))),(3,(.pt (.p (.fz (.int .i64)) (.p (.sl (.fz (.int .i64))) (.p (.sl (.fz (.int .i64))) (.p (.sl (.fz (.int .i64))) (.sl (.fz (.sl (.int .i64)))))))))),(4,(.pt (.p (.fz (.int .i64)) (.p (.sl (.fz (.int .i64))) (.p (.sl (.fz (.int .i64))) (.p (.sl (.fz (.int .i64))) (.sl (.sl (.fz (.int .i64))))))))))] [] (.s (.s .n (.j [(0,(.ad 1000000 [.de])),(3,(.ad 3 [.de])),(4,(.ad 4 [.de]))] [(1000000,(.pt (.fz (.p (.sl (.int .u8)) (.p (.int .i64) (.int .u64)))))),(3,(.pt (.p (.fz (.int .i64)) (.p (.sl (.fz (.int .i64))) (.p (.sl (.fz (.int .i64))) (.p (.sl (.fz (.int .i64))) (.sl (.sl (.fz (.int .i64)))))))))),(4,(.pt (.p (.fz (.int .i64)) (.p (.sl (.fz (.int .i64))) (.p (.sl (.fz (.int .i64))) (.p (.sl (.fz (.int .i64))) (.sl (.sl (.fz (.int .i64))))))))))] [] .n)) (.j [(0,(.ad 1000000 [.de])),(3,(.ad 3 [.de])),(4,(.ad 4 [.de])),(18,(.d .bool))] [(1000000,(.pt (.fz (.p (.sl (.int .u8)) (.p (.int .i64) (.int .u64)))))),(3,(.pt (.p (.fz (.int .i64)) (.p (.sl (.fz (.int .i64))) (.p (.sl (.fz (.int .i64))) (.p (.sl (.fz (.int .i64))) (.sl (.fz (.sl (.int .i64)))))))))),(4,(.pt (.p (.fz (.int .i64)) (.p (.sl (.fz (.int .i64))) (.p (.sl (.fz (.int .i64))) (.p (.sl (.fz (.int .i64))) (.sl (.sl (.fz (.int .i64))))))))))] [6] (.s .n (.j [(0,(.ad 1000000 [.de])),(3,(.ad 3 [.de])),(4,(.ad 4 [.de]))] [(1000000,(.pt (.fz (.p (.sl (.int .u8)) (.p (.int .i64) (.int .u64)))))),(3,(.pt (.p (.fz (.int .i64)) (.p (.sl (.fz (.int .i64))) (.p (.sl (.fz (.int .i64))) (.p (.sl (.fz (.int .i64))) (.sl (.fz (.sl (.int .i64)))))))))),(4,(.pt (.p (.fz (.int .i64)) (.p (.sl (.fz (.int .i64))) (.p (.sl (.fz (.int .i64))) (.p (.sl (.fz (.int .i64))) (.sl (.sl (.fz (.int .i64))))))))))] [] .n))))))))))))))))))) .n)))))
def aae:FuncId->Option Ct:=lkp [(79,ez),(84,abw),(141,kj)]
def uh (s:ah) (c:ac) (K:ah->(ac×Unit)->Prop):Prop:=((OwcR c)/\((0<=s.2.1)/\((0<=(aa s ((c.2.1.length:Nat):Int)).2.1)/\(fk (S:=bri) (fun s1=>((T.ok (.sl (.int .u8)) s1.2.1.1)->((inK .i64 s1.2.1.2.1)->((inK .u64 s1.2.1.2.2)->((inK .i64 s1.2.2.1.1)->((T.ok (.sl (.int .i64)) s1.2.2.1.2.1)->((T.ok (.sl (.int .i64)) s1.2.2.1.2.2.1)->((T.ok (.sl (.int .i64)) s1.2.2.1.2.2.2.1)->((T.ok (.sl (.sl (.int .i64))) s1.2.2.1.2.2.2.2)->((inK .i64 s1.2.2.2.1.1)->((T.ok (.sl (.int .i64)) s1.2.2.2.1.2.1)->((T.ok (.sl (.int .i64)) s1.2.2.2.1.2.2.1)->((T.ok (.sl (.int .i64)) s1.2.2.2.1.2.2.2.1)->((T.ok (.sl (.sl (.int .i64))) s1.2.2.2.1.2.2.2.2)->(K s1.2.1 (s1.2.2.1,())))))))))))))))) (fun k=>(cnd ((ab (aa s ((c.2.1.length:Nat):Int)) 8) == 0) ((inK .i64 (c.1+1))/\((ck (aa (aa s ((c.2.1.length:Nat):Int)) 8))/\((1<=(List.length ((c.1+1)::((-1)::(9::[])))))/\(k (((),((),((),()))),((sg (aa (aa s ((c.2.1.length:Nat):Int)) 8) ((c.1+1)::((-1)::(9::[])))),(((ma (aa (aa s ((c.2.1.length:Nat):Int)) 8) ((c.1+1)::((-1)::(9::[])))),c.2),((0,([],([],([],[])))),())))))))) (fk (S:=bri) (fun s1=>((T.ok (.sl (.int .u8)) s1.2.1.1)->((inK .i64 s1.2.1.2.1)->((inK .u64 s1.2.1.2.2)->((inK .i64 s1.2.2.1.1)->((T.ok (.sl (.int .i64)) s1.2.2.1.2.1)->((T.ok (.sl (.int .i64)) s1.2.2.1.2.2.1)->((T.ok (.sl (.int .i64)) s1.2.2.1.2.2.2.1)->((T.ok (.sl (.sl (.int .i64))) s1.2.2.1.2.2.2.2)->((inK .i64 s1.2.2.2.1.1)->((T.ok (.sl (.int .i64)) s1.2.2.2.1.2.1)->((T.ok (.sl (.int .i64)) s1.2.2.2.1.2.2.1)->((T.ok (.sl (.int .i64)) s1.2.2.2.1.2.2.2.1)->((T.ok (.sl (.sl (.int .i64))) s1.2.2.2.1.2.2.2.2)->(k (((),((),((),()))),(s1.2.1,(s1.2.2.1,(s1.2.2.2.1,()))))))))))))))))))) (fun k1=>(cnd ((ab (aa s ((c.2.1.length:Nat):Int)) 8) == 1) ((fg c.2.1.length (List.length (0::[])) 8)/\(k1 (((),((),((),()))),((aa (aa s ((c.2.1.length:Nat):Int)) 8),((c.1,((c.2.1++(0::[])),c.2.2)),((0,([],([],([],[])))),())))))) (fk (S:=bri) (fun s1=>((T.ok (.sl (.int .u8)) s1.2.1.1)->((inK .i64 s1.2.1.2.1)->((inK .u64 s1.2.1.2.2)->((inK .i64 s1.2.2.1.1)->((T.ok (.sl (.int .i64)) s1.2.2.1.2.1)->((T.ok (.sl (.int .i64)) s1.2.2.1.2.2.1)->((T.ok (.sl (.int .i64)) s1.2.2.1.2.2.2.1)->((T.ok (.sl (.sl (.int .i64))) s1.2.2.1.2.2.2.2)->((inK .i64 s1.2.2.2.1.1)->((T.ok (.sl (.int .i64)) s1.2.2.2.1.2.1)->((T.ok (.sl (.int .i64)) s1.2.2.2.1.2.2.1)->((T.ok (.sl (.int .i64)) s1.2.2.2.1.2.2.2.1)->((T.ok (.sl (.sl (.int .i64))) s1.2.2.2.1.2.2.2.2)->(k1 (((),((),((),()))),(s1.2.1,(s1.2.2.1,(s1.2.2.2.1,()))))))))))))))))))) (fun k2=>(cnd ((ab (aa s ((c.2.1.length:Nat):Int)) 8) == 2) (fk (S:=bri) (fun s1=>((T.ok (.sl (.int .u8)) s1.2.1.1)->((inK .i64 s1.2.1.2.1)->((inK .u64 s1.2.1.2.2)->((inK .i64 s1.2.2.1.1)->((T.ok (.sl (.int .i64)) s1.2.2.1.2.1)->((T.ok (.sl (.int .i64)) s1.2.2.1.2.2.1)->((T.ok (.sl (.int .i64)) s1.2.2.1.2.2.2.1)->((T.ok (.sl (.sl (.int .i64))) s1.2.2.1.2.2.2.2)->((inK .i64 s1.2.2.2.1.1)->((T.ok (.sl (.int .i64)) s1.2.2.2.1.2.1)->((T.ok (.sl (.int .i64)) s1.2.2.2.1.2.2.1)->((T.ok (.sl (.int .i64)) s1.2.2.2.1.2.2.2.1)->((T.ok (.sl (.sl (.int .i64))) s1.2.2.2.1.2.2.2.2)->(k2 (((),((),((),()))),(s1.2.1,(s1.2.2.1,(s1.2.2.2.1,()))))))))))))))))))) (fun k3=>(cnd (decide (0 < ((c.2.2.2.1.length:Nat):Int))) ((inK .i64 (((c.2.1.length:Nat):Int)+1))/\((0<=(aa (aa s ((c.2.1.length:Nat):Int)) 8).2.1)/\(((0:Int)<=0)/\((0 < ((c.2.2.2.1.length:Nat):Int))/\(k3 (((),((),((),()))),((aa (aa (aa s ((c.2.1.length:Nat):Int)) 8) (((c.2.1.length:Nat):Int)+1)),((c.1,(c.2.1,(c.2.2.1,((List.set c.2.2.2.1 (Int.toNat 0) (ab (aa (aa s ((c.2.1.length:Nat):Int)) 8) (((c.2.1.length:Nat):Int)+1))),c.2.2.2.2)))),((0,([],([],([],[])))),()))))))))) (k3 (((),((),((),()))),((aa (aa s ((c.2.1.length:Nat):Int)) 8),(c,((0,([],([],([],[])))),())))))))) (fk (S:=brr) (fun s1=>((T.ok (.sl (.int .u8)) s1.2.1.1)->((inK .i64 s1.2.1.2.1)->((inK .u64 s1.2.1.2.2)->((inK .i64 s1.2.2.1.1)->((T.ok (.sl (.int .i64)) s1.2.2.1.2.1)->((T.ok (.sl (.int .i64)) s1.2.2.1.2.2.1)->((T.ok (.sl (.int .i64)) s1.2.2.1.2.2.2.1)->((T.ok (.sl (.sl (.int .i64))) s1.2.2.1.2.2.2.2)->((inK .i64 s1.2.2.2.1.1)->((T.ok (.sl (.int .i64)) s1.2.2.2.1.2.1)->((T.ok (.sl (.int .i64)) s1.2.2.2.1.2.2.1)->((T.ok (.sl (.int .i64)) s1.2.2.2.1.2.2.2.1)->((T.ok (.sl (.sl (.int .i64))) s1.2.2.2.1.2.2.2.2)->(fk (S:=bri) (fun s2=>((T.ok (.sl (.int .u8)) s2.2.1.1)->((inK .i64 s2.2.1.2.1)->((inK .u64 s2.2.1.2.2)->((inK .i64 s2.2.2.1.1)->((T.ok (.sl (.int .i64)) s2.2.2.1.2.1)->((T.ok (.sl (.int .i64)) s2.2.2.1.2.2.1)->((T.ok (.sl (.int .i64)) s2.2.2.1.2.2.2.1)->((T.ok (.sl (.sl (.int .i64))) s2.2.2.1.2.2.2.2)->((inK .i64 s2.2.2.2.1.1)->((T.ok (.sl (.int .i64)) s2.2.2.2.1.2.1)->((T.ok (.sl (.int .i64)) s2.2.2.2.1.2.2.1)->((T.ok (.sl (.int .i64)) s2.2.2.2.1.2.2.2.1)->((T.ok (.sl (.sl (.int .i64))) s2.2.2.2.1.2.2.2.2)->(k2 (((),((),((),()))),(s2.2.1,(s2.2.2.1,(s2.2.2.2.1,()))))))))))))))))))) (fun k3=>(cnd s1.1.2.2.2.1 (fk (S:=bri) (fun s2=>((T.ok (.sl (.int .u8)) s2.2.1.1)->((inK .i64 s2.2.1.2.1)->((inK .u64 s2.2.1.2.2)->((inK .i64 s2.2.2.1.1)->((T.ok (.sl (.int .i64)) s2.2.2.1.2.1)->((T.ok (.sl (.int .i64)) s2.2.2.1.2.2.1)->((T.ok (.sl (.int .i64)) s2.2.2.1.2.2.2.1)->((T.ok (.sl (.sl (.int .i64))) s2.2.2.1.2.2.2.2)->((inK .i64 s2.2.2.2.1.1)->((T.ok (.sl (.int .i64)) s2.2.2.2.1.2.1)->((T.ok (.sl (.int .i64)) s2.2.2.2.1.2.2.1)->((T.ok (.sl (.int .i64)) s2.2.2.2.1.2.2.2.1)->((T.ok (.sl (.sl (.int .i64))) s2.2.2.2.1.2.2.2.2)->(k3 (((),((),((),()))),(s2.2.1,(s2.2.2.1,(s2.2.2.2.1,()))))))))))))))))))) (fun k4=>(cnd (decide (0 < ((c.2.1.length:Nat):Int))) ((0<=(ab s ((c.2.1.length:Nat):Int)))/\(((ab s ((c.2.1.length:Nat):Int)) < ((s1.2.2.1.2.2.2.2.length:Nat):Int))/\((inK .i64 (((c.2.1.length:Nat):Int)+1))/\((0<=s1.2.1.2.1)/\((0<=(aa s1.2.1 ((c.2.1.length:Nat):Int)).2.1)/\((inK .i64 ((ab (aa s1.2.1 ((c.2.1.length:Nat):Int)) (((c.2.1.length:Nat):Int)+1)) - 1))/\((0<=(ab s1.2.1 ((c.2.1.length:Nat):Int)))/\(((ab s1.2.1 ((c.2.1.length:Nat):Int)) < (((List.length (List.getD s1.2.2.1.2.2.2.2 (Int.toNat (ab s ((c.2.1.length:Nat):Int))) [])):Nat):Int))/\(k4 (((),((),((),()))),((aa (aa s1.2.1 ((c.2.1.length:Nat):Int)) (((c.2.1.length:Nat):Int)+1)),((s1.2.2.1.1,(s1.2.2.1.2.1,(s1.2.2.1.2.2.1,(s1.2.2.1.2.2.2.1,(List.set s1.2.2.1.2.2.2.2 (Int.toNat (ab s ((c.2.1.length:Nat):Int))) (List.set (List.getD s1.2.2.1.2.2.2.2 (Int.toNat (ab s ((c.2.1.length:Nat):Int))) []) (Int.toNat (ab s1.2.1 ((c.2.1.length:Nat):Int))) ((ab (aa s1.2.1 ((c.2.1.length:Nat):Int)) (((c.2.1.length:Nat):Int)+1)) - 1))))))),(s1.2.2.2.1,()))))))))))))) (k4 (((),((),((),()))),(s1.2.1,(s1.2.2.1,(s1.2.2.2.1,())))))))) (fk (S:=bri) (fun s2=>((T.ok (.sl (.int .u8)) s2.2.1.1)->((inK .i64 s2.2.1.2.1)->((inK .u64 s2.2.1.2.2)->((inK .i64 s2.2.2.1.1)->((T.ok (.sl (.int .i64)) s2.2.2.1.2.1)->((T.ok (.sl (.int .i64)) s2.2.2.1.2.2.1)->((T.ok (.sl (.int .i64)) s2.2.2.1.2.2.2.1)->((T.ok (.sl (.sl (.int .i64))) s2.2.2.1.2.2.2.2)->((inK .i64 s2.2.2.2.1.1)->((T.ok (.sl (.int .i64)) s2.2.2.2.1.2.1)->((T.ok (.sl (.int .i64)) s2.2.2.2.1.2.2.1)->((T.ok (.sl (.int .i64)) s2.2.2.2.1.2.2.2.1)->((T.ok (.sl (.sl (.int .i64))) s2.2.2.2.1.2.2.2.2)->(k3 (((),((),((),()))),(s2.2.1,(s2.2.2.1,(s2.2.2.2.1,()))))))))))))))))))) (fun k4=>(cnd ((ab (aa s ((c.2.1.length:Nat):Int)) 8) == 6) (fk (S:=bri) (fun s2=>((T.ok (.sl (.int .u8)) s2.2.1.1)->((inK .i64 s2.2.1.2.1)->((inK .u64 s2.2.1.2.2)->((inK .i64 s2.2.2.1.1)->((T.ok (.sl (.int .i64)) s2.2.2.1.2.1)->((T.ok (.sl (.int .i64)) s2.2.2.1.2.2.1)->((T.ok (.sl (.int .i64)) s2.2.2.1.2.2.2.1)->((T.ok (.sl (.sl (.int .i64))) s2.2.2.1.2.2.2.2)->((inK .i64 s2.2.2.2.1.1)->((T.ok (.sl (.int .i64)) s2.2.2.2.1.2.1)->((T.ok (.sl (.int .i64)) s2.2.2.2.1.2.2.1)->((T.ok (.sl (.int .i64)) s2.2.2.2.1.2.2.2.1)->((T.ok (.sl (.sl (.int .i64))) s2.2.2.2.1.2.2.2.2)->(k4 (((),((),((),()))),(s2.2.1,(s2.2.2.1,(s2.2.2.2.1,()))))))))))))))))))) (fun k5=>(cnd (decide (0 < ((c.2.1.length:Nat):Int))) ((inK .i64 (s1.2.2.1.1+1))/\((0<=s1.2.1.2.1)/\((0<=(ab s ((c.2.1.length:Nat):Int)))/\(((ab s ((c.2.1.length:Nat):Int)) < ((s1.2.2.1.2.2.1.length:Nat):Int))/\(k5 (((),((),((),()))),((aa s1.2.1 (s1.2.2.1.1+1)),((s1.2.2.1.1,(s1.2.2.1.2.1,((List.set s1.2.2.1.2.2.1 (Int.toNat (ab s ((c.2.1.length:Nat):Int))) (ab s1.2.1 (s1.2.2.1.1+1))),s1.2.2.1.2.2.2))),(s1.2.2.2.1,()))))))))) (k5 (((),((),((),()))),(s1.2.1,(s1.2.2.1,(s1.2.2.2.1,())))))))) (fk (S:=brr) (fun s2=>((T.ok (.sl (.int .u8)) s2.2.1.1)->((inK .i64 s2.2.1.2.1)->((inK .u64 s2.2.1.2.2)->((inK .i64 s2.2.2.1.1)->((T.ok (.sl (.int .i64)) s2.2.2.1.2.1)->((T.ok (.sl (.int .i64)) s2.2.2.1.2.2.1)->((T.ok (.sl (.int .i64)) s2.2.2.1.2.2.2.1)->((T.ok (.sl (.sl (.int .i64))) s2.2.2.1.2.2.2.2)->((inK .i64 s2.2.2.2.1.1)->((T.ok (.sl (.int .i64)) s2.2.2.2.1.2.1)->((T.ok (.sl (.int .i64)) s2.2.2.2.1.2.2.1)->((T.ok (.sl (.int .i64)) s2.2.2.2.1.2.2.2.1)->((T.ok (.sl (.sl (.int .i64))) s2.2.2.2.1.2.2.2.2)->(fk (S:=bri) (fun s3=>((T.ok (.sl (.int .u8)) s3.2.1.1)->((inK .i64 s3.2.1.2.1)->((inK .u64 s3.2.1.2.2)->((inK .i64 s3.2.2.1.1)->((T.ok (.sl (.int .i64)) s3.2.2.1.2.1)->((T.ok (.sl (.int .i64)) s3.2.2.1.2.2.1)->((T.ok (.sl (.int .i64)) s3.2.2.1.2.2.2.1)->((T.ok (.sl (.sl (.int .i64))) s3.2.2.1.2.2.2.2)->((inK .i64 s3.2.2.2.1.1)->((T.ok (.sl (.int .i64)) s3.2.2.2.1.2.1)->((T.ok (.sl (.int .i64)) s3.2.2.2.1.2.2.1)->((T.ok (.sl (.int .i64)) s3.2.2.2.1.2.2.2.1)->((T.ok (.sl (.sl (.int .i64))) s3.2.2.2.1.2.2.2.2)->(k4 (((),((),((),()))),(s3.2.1,(s3.2.2.1,(s3.2.2.2.1,()))))))))))))))))))) (fun k5=>(cnd s2.1.2.2.2.1 ((0<=(ab s ((c.2.1.length:Nat):Int)))/\(((ab s ((c.2.1.length:Nat):Int)) < ((s2.2.2.1.2.2.2.2.length:Nat):Int))/\(((0:Int)<=1)/\((1<=(((List.length (List.getD s2.2.2.1.2.2.2.2 (Int.toNat (ab s ((c.2.1.length:Nat):Int))) [])):Nat):Int))/\((0<=(ab s ((c.2.1.length:Nat):Int)))/\(((ab s ((c.2.1.length:Nat):Int)) < ((s2.2.2.1.2.2.2.2.length:Nat):Int))/\(k5 (((),((),((),()))),(s2.2.1,((s2.2.2.1.1,(s2.2.2.1.2.1,(s2.2.2.1.2.2.1,(s2.2.2.1.2.2.2.1,(List.set s2.2.2.1.2.2.2.2 (Int.toNat (ab s ((c.2.1.length:Nat):Int))) (List.drop (Int.toNat 1) (List.getD s2.2.2.1.2.2.2.2 (Int.toNat (ab s ((c.2.1.length:Nat):Int))) []))))))),(s2.2.2.2.1,()))))))))))) (k5 (((),((),((),()))),(s2.2.1,(s2.2.2.1,(s2.2.2.2.1,())))))))))))))))))))))) (fun k5=>(k5 (((),((),((),((decide (0 < ((c.2.1.length:Nat):Int))),())))),(s1.2.1,(s1.2.2.1,(s1.2.2.2.1,()))))))))))))))))))))))))))) (fun k3=>(cnd ((ab (aa s ((c.2.1.length:Nat):Int)) 8) == 3) (k3 (((),((),((),(((ab (aa s ((c.2.1.length:Nat):Int)) 8) == 3),())))),((aa (aa s ((c.2.1.length:Nat):Int)) 8),(c,((0,([],([],([],[])))),()))))) (fk (S:=brr) (fun s1=>((T.ok (.sl (.int .u8)) s1.2.1.1)->((inK .i64 s1.2.1.2.1)->((inK .u64 s1.2.1.2.2)->((inK .i64 s1.2.2.1.1)->((T.ok (.sl (.int .i64)) s1.2.2.1.2.1)->((T.ok (.sl (.int .i64)) s1.2.2.1.2.2.1)->((T.ok (.sl (.int .i64)) s1.2.2.1.2.2.2.1)->((T.ok (.sl (.sl (.int .i64))) s1.2.2.1.2.2.2.2)->((inK .i64 s1.2.2.2.1.1)->((T.ok (.sl (.int .i64)) s1.2.2.2.1.2.1)->((T.ok (.sl (.int .i64)) s1.2.2.2.1.2.2.1)->((T.ok (.sl (.int .i64)) s1.2.2.2.1.2.2.2.1)->((T.ok (.sl (.sl (.int .i64))) s1.2.2.2.1.2.2.2.2)->(k3 (((),((),((),(s1.1.2.2.2.1,())))),(s1.2.1,(s1.2.2.1,(s1.2.2.2.1,()))))))))))))))))))) (fun k4=>(cnd ((ab (aa s ((c.2.1.length:Nat):Int)) 8) == 4) (k4 (((),((),((),(((ab (aa s ((c.2.1.length:Nat):Int)) 8) == 4),())))),((aa (aa s ((c.2.1.length:Nat):Int)) 8),(c,((0,([],([],([],[])))),()))))) (k4 (((),((),((),(((ab (aa s ((c.2.1.length:Nat):Int)) 8) == 5),())))),((aa (aa s ((c.2.1.length:Nat):Int)) 8),(c,((0,([],([],([],[])))),())))))))))))))))))))))))
theorem awc (x:fq.o.strip.den) (y:bi fq.as) (K:ah->(ac×Unit)->Prop):pc tab aae (aw [(18,40010),(21,40006),(6,9),(13,40004)]) Try.f123 (aj Try.f123) zw fq x y K=uh x y.1 K:=by kernel_rfl
theorem aly:okC Try.f123.ntmps (aw [(18,40010),(21,40006),(6,9),(13,40004)]) (aj Try.f123)=true:=by kernel_rfl
theorem axz (s:ah) (c:ac) (hok:ae (fq.o.strip.oks s)) (hok2:ae (okL fq.as (c,()))) (hpre:ae (fq.pre s (c,()))):uh s c (fun z r=>x7 s c z r.1):=by
 simp only [fq,O.strip,okL,T.oks,T.ok,ap,ae,true_and,and_true,implies_true]at hok hok2 hpre
 try dsimp only [T.den]at hok
 try dsimp only [T.den]at hok2
 try dsimp only [T.den]at hpre
 unfold uh x7
 obtain ⟨hS,hC⟩:=hpre
 have hm:=hC.m
 have ho:=hC.ob
 have ho0:=hC.ob0
 have h1:=je (n:=(c.2.1.length:Int)) hS (by rw [au];(try dsimp only);omega)
 have h2:=je (n:=8) h1.1 (by rw [au];(try dsimp only);omega)
 refine ⟨bjq hC (by omega),hS.2,h1.1.2,?_⟩
 have f0:=h1.2.1
 have f1:=h1.2.2.1
 generalize ab s c.2.1.length=f at *
 generalize aa s c.2.1.length=z at *
 have hZ:=h2.1
 generalize ab z 8=w at *
 generalize aa z 8=y at *
 have n1:=je (n:=(c.2.1.length:Int)+1) hZ (by rw [au];(try dsimp only);omega)
 have n2:=je (n:=(c.2.1.length:Int)) hZ (by rw [au];(try dsimp only);omega)
 have n3:=je (n:=(c.2.1.length:Int)+1) n2.1 (by rw [au];(try dsimp only);omega)
 have n4:=je (n:=c.1+1) hZ (by rw [au];(try dsimp only);omega)
 have hrow:0 < c.2.1.length->(c.2.2.2.2.getD f.toNat []).length=c.2.1.length:=fun h=>hC.rowG f0 (f1 (by omega))
 have hlc:=hC.lc
 have hlt:=hC.lt
 refine dn (fun (q:bri)=>ck q.2.1/\q.2.2.1.2.1.length<=c.2.1.length+1) (fun q hq=>by intros;exact hq) (fun k hk=>?_)
 refine be (fun _=>?_) (fun _=>?_)
 ·have hp:=bk3 (s:=y) (l:=[c.1+1,-1,9]) hZ (bqq (by rw [fy];simp) (fun x hx=>by simp only [List.mem_cons,List.not_mem_nil,or_false]at hx;rw [au];omega)) (by simp)
  exact ⟨by rw [au];(try dsimp only);omega,hZ,by simp,hk _ ⟨hp.1,Nat.le_succ _⟩⟩
 refine dn (fun (q:bri)=>ck q.2.1/\q.2.2.1.2.1.length<=c.2.1.length+1) (fun q hq=>by intros;exact hk _ hq) (fun k1 hk1=>?_)
 refine be (fun _=>?_) (fun _=>?_)
 ·exact ⟨cw (by simp only [List.length_cons,List.length_nil];omega),hk1 _ ⟨hZ,by simp⟩⟩
 refine dn (fun (q:bri)=>ck q.2.1/\q.2.2.1.2.1.length<=c.2.1.length+1) (fun q hq=>by intros;exact hk1 _ hq) (fun k2 hk2=>?_)
 refine be (fun _=>?_) (fun _=>?_)
 ·refine dn (fun (q:bri)=>ck q.2.1/\q.2.2.1.2.1.length<=c.2.1.length+1) (fun q hq=>by intros;exact hk2 _ hq) (fun k3 hk3=>?_)
  refine bf (fun hl=>?_) (fun hl=>?_)
  ·exact ⟨by rw [au];(try dsimp only);omega,hZ.2,Int.le_refl _,hl,hk3 _ ⟨n1.1,Nat.le_succ _⟩⟩
  ·exact hk3 _ ⟨hZ,Nat.le_succ _⟩
 refine dn (fun (q:brr)=>q.2.1=y/\q.2.2.1=c) ?_ ?_
 ·rintro ⟨⟨_,_,_,b,_⟩,y2,c2,_⟩ ⟨e1,e2⟩
  intros
  try dsimp only at e1 e2 ⊢
  subst e1;subst e2
  refine dn (fun (q:bri)=>ck q.2.1/\q.2.2.1.2.1.length<=c2.2.1.length+1) (fun q hq=>by intros;exact hk2 _ hq) (fun k3 hk3=>?_)
  refine be (fun _=>?_) (fun _=>?_)
  ·refine dn (fun (q:bri)=>ck q.2.1/\q.2.2.1.2.1.length<=c2.2.1.length+1) (fun q hq=>by intros;exact hk3 _ hq) (fun k4 hk4=>?_)
   refine bf (fun hl=>?_) (fun hl=>?_)
   ·have hr:=hrow (by omega)
    have b3:=n3.2.2.1 (by omega)
    have b3a:=n3.2.1
    have b2:=n2.2.2.1 (by omega)
    exact ⟨f0,by have:=f1 (by omega);omega,by rw [au];(try dsimp only);omega,hZ.2,n2.1.2,by rw [au];(try dsimp only);omega,n2.2.1,by rw [hr];exact b2,hk4 _ ⟨n3.1,Nat.le_succ _⟩⟩
   ·exact hk4 _ ⟨hZ,Nat.le_succ _⟩
  refine dn (fun (q:bri)=>ck q.2.1/\q.2.2.1.2.1.length<=c2.2.1.length+1) (fun q hq=>by intros;exact hk3 _ hq) (fun k4 hk4=>?_)
  refine be (fun _=>?_) (fun _=>?_)
  ·refine dn (fun (q:bri)=>ck q.2.1/\q.2.2.1.2.1.length<=c2.2.1.length+1) (fun q hq=>by intros;exact hk4 _ hq) (fun k5 hk5=>?_)
   refine bf (fun hl=>?_) (fun hl=>?_)
   ·exact ⟨by rw [au];(try dsimp only);omega,hZ.2,f0,by have:=f1 (by omega);omega,hk5 _ ⟨n4.1,Nat.le_succ _⟩⟩
   ·exact hk5 _ ⟨hZ,Nat.le_succ _⟩
  refine dn (fun (q:brr)=>q.2.1=y2/\q.2.2.1=c2/\q.1.2.2.2.1=decide (0 < (c2.2.1.length:Int))) ?_ (fun k5 hk5=>hk5 _ ⟨rfl,rfl,rfl⟩)
  rintro ⟨⟨_,_,_,b2,_⟩,y3,c3,_⟩ ⟨e3,e4,e5⟩
  intros
  try dsimp only at e3 e4 e5 ⊢
  subst e3;subst e4;subst e5
  refine dn (fun (q:bri)=>ck q.2.1/\q.2.2.1.2.1.length<=c3.2.1.length+1) (fun q hq=>by intros;exact hk4 _ hq) (fun k5 hk5=>?_)
  refine bf (fun hl=>?_) (fun hl=>?_)
  ·have hr:=hrow (by omega)
   have:=f1 (by omega)
   exact ⟨f0,by omega,by omega,by rw [hr];omega,f0,by omega,hk5 _ ⟨hZ,Nat.le_succ _⟩⟩
  ·exact hk5 _ ⟨hZ,Nat.le_succ _⟩
 ·intro k3 hk3
  refine be (fun _=>hk3 _ ⟨rfl,rfl⟩) (fun _=>?_)
  refine dn (fun (q:brr)=>q.2.1=y/\q.2.2.1=c) (fun q hq=>by intros;exact hk3 _ hq) (fun k4 hk4=>?_)
  exact be (fun _=>hk4 _ ⟨rfl,rfl⟩) (fun _=>hk4 _ ⟨rfl,rfl⟩)
theorem abd (s:ah) (c:ac):∃ q:ah×(ac×Unit),ae (fq.o.strip.oks s)->ae (okL fq.as (c,()))->ae (fq.pre s (c,()))->uh s c (fun z r=>z=q.1/\r=q.2)/\ae (fq.o.strip.oks q.1)/\ae (okR fq.rt q.2)/\x7 s c q.1 q.2.1:=
 xk (f:=123) (Φ:=aae) (am du (am sf (am abs ba))) bo (by kernel_rfl) (fn:=Try.f123) (c:=aj Try.f123) (by kernel_rfl) (by kernel_rfl) (by kernel_rfl) fq zw (aw [(18,40010),(21,40006),(6,9),(13,40004)]) (ot (by kernel_rfl)) (by kernel_rfl) (by kernel_rfl) aly (by decide) (by kernel_rfl) (by kernel_rfl) bp rfl (by kernel_rfl) (fun x y K=>uh x y.1 K) awc (fun x y z r=>x7 x y.1 z r.1) (fun x y h1 h2 h3=>axz x y.1 h1 h2 h3) s (c,())
def wd (s:ah) (c:ac):ah:=(abd s c).choose.1
def ut (s:ah) (c:ac):ac:=(abd s c).choose.2.1
theorem ayg (s:ah) (c:ac) (hok:ae (fq.o.strip.oks s)) (hok2:ae (okL fq.as (c,()))) (hpre:ae (fq.pre s (c,()))):ae (fq.o.strip.oks (wd s c))/\ae (okR fq.rt (ut s c,()))/\x7 s c (wd s c) (ut s c):=((abd s c).choose_spec hok hok2 hpre).2
def we:Wt:=⟨(.pt (.fz bp)),[bj],[true],fun x y=>[ck x,CgR 1000000000 y.1],fun x y=>(wd x y.1),[(true,(.fz bj))],fun x y=>((ut x y.1),())⟩
def amg:Ct:=ac8 we
theorem auh (x:we.o.strip.den) (y:bi we.as) (K:ah->(ac×Unit)->Prop):pc tab aae (aw [(18,40010),(21,40006),(6,9),(13,40004)]) Try.f123 (aj Try.f123) zw we x y K=uh x y.1 K:=by kernel_rfl
theorem aj7:dg Try.prog 123 amg:=
 acx (Φ:=aae) (am du (am sf (am abs ba))) bo (by kernel_rfl) (fn:=Try.f123) (c:=aj Try.f123) (by kernel_rfl) (by kernel_rfl) (by kernel_rfl) we zw (aw [(18,40010),(21,40006),(6,9),(13,40004)]) (by kernel_rfl) (by kernel_rfl) aly (by decide) (by kernel_rfl) (fun x y h1 h2 h3=>(auh x y _).mpr ((abd x y.1).choose_spec h1 h2 h3).1)
theorem bpr {s:ah} {c:ac} (h:ck s) (ho:ae (T.oks bj c)) (hc:CgR 1000000000 c):ck (wd s c)/\(ut s c).2.1.length<=c.2.1.length+1:=
 (ayg s c h.1 ho ⟨h,hc,trivial⟩).2.2
structure TblR (t:List (List Int)):Prop where
 lo:1<=t.length
 hi:t.length<=8
 rw_:∀ r ∈ t,r.length=t.length
 en:∀ r ∈ t,∀ x ∈ r,0<=x/\x<=8
theorem TblR.own {t:List (List Int)} (h:TblR t):OwnP t:=⟨by have:=h.hi;omega,fun r hr=>by have:=h.rw_ r hr;have:=h.hi;omega⟩
theorem TblR.row {t:List (List Int)} (h:TblR t) {i:Int} (i0:0<=i) (i1:i < t.length):(t.getD i.toNat []).length=t.length:=h.rw_ _ (gf t [] i0 i1)
def eo:Wt:=⟨(.pt (.fz bp)),[],[],fun x y=>[ck x],fun x _=>x,[(false,(.sl (.sl (.fz (.int .i64)))))],fun _ _=>dfR _⟩
def uo (s:ah) (z:ah) (r0:List (List Int)):Prop:=ck z/\TblR r0
def qz (s:ah) (K:ah->brj->Prop):Prop:=((0<=s.2.1)/\(cnd ((ab s 8) == 0) (K (aa s 8) (((0::[])::[]),())) (cnd ((ab s 8) == 1) (K (aa s 8) (((0::(1::[]))::((1::(0::[]))::[])),())) (cnd ((ab s 8) == 2) (K (aa s 8) (((0::(1::[]))::((1::(1::[]))::[])),())) (cnd ((ab s 8) == 3) (K (aa s 8) (((0::(1::(2::[])))::((1::(2::(0::[])))::((2::(0::(1::[])))::[]))),())) (cnd ((ab s 8) == 4) (K (aa s 8) (((0::(1::(2::[])))::((1::(1::(2::[])))::((2::(2::(2::[])))::[]))),())) (cnd ((ab s 8) == 5) (K (aa s 8) (((0::(1::(2::[])))::((1::(1::(2::[])))::((2::(1::(2::[])))::[]))),())) (cnd ((ab s 8) == 6) (K (aa s 8) (((0::(1::(2::(3::[]))))::((1::(0::(2::(3::[]))))::((2::(3::(2::(3::[]))))::((3::(2::(2::(3::[]))))::[])))),())) (K (aa s 8) (((0::(1::(2::[])))::((1::(2::(2::[])))::((2::(2::(2::[])))::[]))),()))))))))))
theorem as6 (x:eo.o.strip.den) (y:bi eo.as) (K:ah->brj->Prop):pc tab (lkp [(79,ez)]) (aw []) Try.f146 (aj Try.f146) .n eo x y K=qz x  K:=by kernel_rfl
theorem aih:okC Try.f146.ntmps (aw []) (aj Try.f146)=true:=by kernel_rfl
theorem asr (s:ah) (hok:ae (eo.o.strip.oks s)) (hok2:ae (okL eo.as (()))) (hpre:ae (eo.pre s (()))):qz s (fun z r=>uo s z r.1):=by
 simp only [eo,O.strip,okL,T.oks,T.ok,ap,ae,true_and,and_true,implies_true]at hok hok2 hpre
 try dsimp only [T.den]at hok
 try dsimp only [T.den]at hok2
 try dsimp only [T.den]at hpre
 unfold qz uo
 have h1:=je (n:=8) hpre (by rw [au];(try dsimp only);omega)
 refine ⟨hpre.2,?_⟩
 repeat' first | exact ⟨h1.1,⟨by simp,by simp,by simp,by decide⟩⟩ | refine be (fun _=>⟨h1.1,⟨by simp,by simp,by simp,by decide⟩⟩) (fun _=>?_)
theorem yn (s:ah):∃ q:ah×brj,ae (eo.o.strip.oks s)->ae (okL eo.as (()))->ae (eo.pre s (()))->qz s (fun z r=>z=q.1/\r=q.2)/\ae (eo.o.strip.oks q.1)/\ae (okR eo.rt q.2)/\uo s q.1 q.2.1:=
 xk (f:=146) (Φ:=lkp [(79,ez)]) (am du ba) bo (by kernel_rfl) (fn:=Try.f146) (c:=aj Try.f146) (by kernel_rfl) (by kernel_rfl) (by kernel_rfl) eo .n (aw []) (ot (by kernel_rfl)) (by kernel_rfl) (by kernel_rfl) aih (by decide) (by kernel_rfl) (by kernel_rfl) bp rfl (by kernel_rfl) (fun x y K=>qz x  K) as6 (fun x y z r=>uo x  z r.1) (fun x y h1 h2 h3=>asr x  h1 h2 h3) s (())
def oc (s:ah):ah:=(yn s).choose.1
def f8 (s:ah):List (List Int):=(yn s).choose.2.1
theorem ats (s:ah) (hok:ae (eo.o.strip.oks s)) (hok2:ae (okL eo.as (()))) (hpre:ae (eo.pre s (()))):ae (eo.o.strip.oks (oc s))/\ae (okR eo.rt (f8 s,()))/\uo s (oc s) (f8 s):=((yn s).choose_spec hok hok2 hpre).2
def tb:Wt:=⟨(.pt (.fz bp)),[],[],fun x y=>[ck x],fun x y=>(oc x),[(false,(.sl (.sl (.fz (.int .i64)))))],fun x y=>((f8 x),())⟩
def ah4:Ct:=ac8 tb
theorem arg (x:tb.o.strip.den) (y:bi tb.as) (K:ah->brj->Prop):pc tab (lkp [(79,ez)]) (aw []) Try.f146 (aj Try.f146) .n tb x y K=qz x  K:=by kernel_rfl
theorem ag5:dg Try.prog 146 ah4:=
 acx (Φ:=lkp [(79,ez)]) (am du ba) bo (by kernel_rfl) (fn:=Try.f146) (c:=aj Try.f146) (by kernel_rfl) (by kernel_rfl) (by kernel_rfl) tb .n (aw []) (by kernel_rfl) (by kernel_rfl) aih (by decide) (by kernel_rfl) (fun x y h1 h2 h3=>(arg x y _).mpr ((yn x).choose_spec h1 h2 h3).1)
theorem asj {s:ah} (h:ck s):ck (oc s)/\TblR (f8 s)/\(T.sl (.sl (.int .i64))).ok (f8 s):=by
 obtain ⟨_,h2,h3⟩:=ats s h.1 trivial ⟨h,trivial⟩
 exact ⟨h3.1,h3.2,h2.1⟩
structure RowP (n:Int) (m:List (List Int)):Prop where
 l:(m.length:Int)=n
 r:∀ r ∈ m,(r.length:Int)=n
theorem RowP.row {n:Int} {m:List (List Int)} (h:RowP n m) {i:Int} (i0:0<=i) (i1:i < n):((m.getD i.toNat []).length:Int)=n:=h.r _ (gf m [] i0 (by have:=h.l;omega))
theorem RowP.set {n:Int} {m:List (List Int)} (h:RowP n m) {i:Int} (i0:0<=i) (i1:i < n) {j:Nat} {x:Int}:RowP n (m.set i.toNat ((m.getD i.toNat []).set j x)):=
 ⟨by rw [List.length_set];exact h.l,fun r hr=>by
  rcases List.mem_or_eq_of_mem_set hr with hr | hr
  ·exact h.r r hr
  ·rw [hr,List.length_set];exact h.row i0 i1⟩
def c7:Wt:=⟨(.pt (.fz bp)),[(.int .i64)],[false],fun x y=>[ck x,0<=y.1,y.1<=8],fun x _=>x,[(false,(.sl (.sl (.fz (.int .i64)))))],fun _ _=>dfR _⟩
def rx (s:ah) (n:Int) (z:ah) (r0:List (List Int)):Prop:=ck z/\RowP n r0
def ve:Ann:=(.s .n (.s .n (.s (.s .n (.l [(0,(.ad 1000000 [.de])),(5,(.ref 800005 [])),(6,(.d (.int .i64)))] [(1000000,(.pt (.fz (.p (.sl (.int .u8)) (.p (.int .i64) (.int .u64)))))),(800005,(.sl (.sl (.fz (.int .i64)))))] [1] (.s .n (.s (.s .n (.s .n (.s (.s .n (.l [(0,(.ad 1000000 [.de])),(5,(.ref 800005 [])),(7,(.ref 19 [])),(8,(.d (.int .i64)))] [(1000000,(.pt (.fz (.p (.sl (.int .u8)) (.p (.int .i64) (.int .u64)))))),(800005,(.sl (.sl (.fz (.int .i64))))),(19,(.sl (.fz (.int .i64))))] [1,6] .n)) .n))) .n)))) (.s (.s .n (.j [(0,(.ad 1000000 [.de])),(5,(.ref 800005 []))] [(1000000,(.pt (.fz (.p (.sl (.int .u8)) (.p (.int .i64) (.int .u64)))))),(800005,(.sl (.sl (.fz (.int .i64)))))] [1] .n)) (.s (.s .n (.l [(0,(.ad 1000000 [.de])),(5,(.ref 800005 [])),(9,(.d (.int .i64)))] [(1000000,(.pt (.fz (.p (.sl (.int .u8)) (.p (.int .i64) (.int .u64)))))),(800005,(.sl (.sl (.fz (.int .i64)))))] [1] (.s .n (.s (.s .n (.l [(0,(.ad 1000000 [.de])),(5,(.ref 800005 [])),(10,(.d (.int .i64)))] [(1000000,(.pt (.fz (.p (.sl (.int .u8)) (.p (.int .i64) (.int .u64)))))),(800005,(.sl (.sl (.fz (.int .i64)))))] [1,9] (.s .n (.s (.s .n (.l [(0,(.ad 1000000 [.de])),(5,(.ref 800005 [])),(11,(.d (.int .i64)))] [(1000000,(.pt (.fz (.p (.sl (.int .u8)) (.p (.int .i64) (.int .u64)))))),(800005,(.sl (.sl (.fz (.int .i64)))))] [1,9,10] (.s .n (.s (.s .n (.j [(0,(.ad 1000000 [.de])),(5,(.ref 800005 []))] [(1000000,(.pt (.fz (.p (.sl (.int .u8)) (.p (.int .i64) (.int .u64)))))),(800005,(.sl (.sl (.fz (.int .i64)))))] [1,9,10,11] .n)) .n)))) .n)))) .n)))) .n)))))
def pj (s:ah) (n:Int) (K:ah->brj->Prop):Prop:=(bu (S:=brq) (fun s1=>(fun next=>((inK .i64 s1.1.2.2.1)->((T.ok (.sl (.int .u8)) s1.2.1.1)->((inK .i64 s1.2.1.2.1)->((inK .u64 s1.2.1.2.2)->((T.ok (.sl (.sl (.int .i64))) s1.2.2.1)->(cnd (decide (s1.1.2.2.1 < n)) ((0<=n)/\((n<=n)/\((n<=((140737488355328:Nat):Int))/\(((n * ((8:Nat):Int))<=((140737488355328:Nat):Int))/\((0<=s1.1.2.2.1)/\((s1.1.2.2.1 < (((List.length (List.replicate n.toNat (0:Int))):Nat):Int))/\((inK .i64 (s1.1.2.2.1+1))/\(bu (S:=((Unit×brc)×(brd×(brt×brg)))) (fun s2=>(fun next1=>((inK .i64 s2.1.2.2.2.1)->((T.ok (.sl (.int .u8)) s2.2.1.1)->((inK .i64 s2.2.1.2.1)->((inK .u64 s2.2.1.2.2)->((T.ok (.sl (.sl (.int .i64))) s2.2.2.1)->((T.ok (.sl (.int .i64)) s2.2.2.2.1)->(cnd (decide (s2.1.2.2.2.1 < n)) ((0<=s2.2.1.2.1)/\((0<=s2.1.2.2.2.1)/\((s2.1.2.2.2.1 < ((s2.2.2.2.1.length:Nat):Int))/\((inK .i64 (s2.1.2.2.2.1+1))/\(next1 (((),((),((),((s2.1.2.2.2.1+1),())))),((aa s2.2.1 2),(s2.2.2.1,((List.set s2.2.2.2.1 s2.1.2.2.2.1.toNat (ab s2.2.1 2)),()))))))))) ((fg s2.2.2.1.length (List.length (s2.2.2.2.1::[])) 24)/\((inK .i64 (s1.1.2.2.1+1))/\(next (((),((),((s1.1.2.2.1+1),()))),(s2.2.1,((s2.2.2.1++(s2.2.2.2.1::[])),()))))))))))))))) (((),((),((),((s1.1.2.2.1+1),())))),(s1.2.1,(s1.2.2.1,((List.set (List.replicate n.toNat (0:Int)) s1.1.2.2.1.toNat 1),())))))))))))) (ifP ((decide (1 < n))=true) ((0<=s1.2.1.2.1)/\(fk (S:=(brp×(brd×brj))) (fun s2=>((T.ok (.sl (.int .u8)) s2.2.1.1)->((inK .i64 s2.2.1.2.1)->((inK .u64 s2.2.1.2.2)->((T.ok (.sl (.sl (.int .i64))) s2.2.2.1)->(bu (S:=brq) (fun s3=>(fun next1=>((inK .i64 s3.1.2.2.1)->((T.ok (.sl (.int .u8)) s3.2.1.1)->((inK .i64 s3.2.1.2.1)->((inK .u64 s3.2.1.2.2)->((T.ok (.sl (.sl (.int .i64))) s3.2.2.1)->(cnd (decide (s3.1.2.2.1 < n)) (bu (S:=brq) (fun s4=>(fun next2=>((inK .i64 s4.1.2.2.1)->((T.ok (.sl (.int .u8)) s4.2.1.1)->((inK .i64 s4.2.1.2.1)->((inK .u64 s4.2.1.2.2)->((T.ok (.sl (.sl (.int .i64))) s4.2.2.1)->(cnd (decide (s4.1.2.2.1 < n)) (bu (S:=brq) (fun s5=>(fun next3=>((inK .i64 s5.1.2.2.1)->((T.ok (.sl (.int .u8)) s5.2.1.1)->((inK .i64 s5.2.1.2.1)->((inK .u64 s5.2.1.2.2)->((T.ok (.sl (.sl (.int .i64))) s5.2.2.1)->(cnd (decide (s5.1.2.2.1 < n)) ((0<=s4.1.2.2.1)/\((s4.1.2.2.1 < ((s5.2.2.1.length:Nat):Int))/\((0<=s3.1.2.2.1)/\((s3.1.2.2.1 < (((List.length (List.getD s5.2.2.1 s4.1.2.2.1.toNat [])):Nat):Int))/\(((((List.getD (List.getD s5.2.2.1 s4.1.2.2.1.toNat []) s3.1.2.2.1.toNat 0) == 1)=true)->((s3.1.2.2.1 < ((s5.2.2.1.length:Nat):Int))/\(0<=s3.1.2.2.1)))/\(((((List.getD (List.getD s5.2.2.1 s4.1.2.2.1.toNat []) s3.1.2.2.1.toNat 0) == 1)=true)->((s5.1.2.2.1 < (((List.length (List.getD s5.2.2.1 s3.1.2.2.1.toNat [])):Nat):Int))/\(0<=s5.1.2.2.1)))/\(fk (S:=(brp×(brd×brj))) (fun s6=>((T.ok (.sl (.int .u8)) s6.2.1.1)->((inK .i64 s6.2.1.2.1)->((inK .u64 s6.2.1.2.2)->((T.ok (.sl (.sl (.int .i64))) s6.2.2.1)->((inK .i64 (s5.1.2.2.1+1))/\(next3 (((),((),((s5.1.2.2.1+1),()))),(s6.2.1,(s6.2.2.1,())))))))))) (fun k=>(cnd (((List.getD (List.getD s5.2.2.1 s4.1.2.2.1.toNat []) s3.1.2.2.1.toNat 0) == 1) && ((List.getD (List.getD s5.2.2.1 s3.1.2.2.1.toNat []) s5.1.2.2.1.toNat 0) == 1)) ((0<=s4.1.2.2.1)/\((s4.1.2.2.1 < ((s5.2.2.1.length:Nat):Int))/\((0<=s5.1.2.2.1)/\((s5.1.2.2.1 < (((List.length (List.getD s5.2.2.1 s4.1.2.2.1.toNat [])):Nat):Int))/\(k (((),((),())),(s5.2.1,((List.set s5.2.2.1 s4.1.2.2.1.toNat (List.set (List.getD s5.2.2.1 s4.1.2.2.1.toNat []) s5.1.2.2.1.toNat 1)),())))))))) (k (((),((),())),(s5.2.1,(s5.2.2.1,()))))))))))))) ((inK .i64 (s4.1.2.2.1+1))/\(next2 (((),((),((s4.1.2.2.1+1),()))),(s5.2.1,(s5.2.2.1,()))))))))))))) (((),((),(0,()))),(s4.2.1,(s4.2.2.1,())))) ((inK .i64 (s3.1.2.2.1+1))/\(next1 (((),((),((s3.1.2.2.1+1),()))),(s4.2.1,(s4.2.2.1,()))))))))))))) (((),((),(0,()))),(s3.2.1,(s3.2.2.1,())))) (K s3.2.1 (s3.2.2.1,())))))))))) (((),((),(0,()))),(s2.2.1,(s2.2.2.1,()))))))))) (fun k=>(cnd ((decide (1 < n)) && ((ab s1.2.1 4) == 0)) ((inK .i64 (n - 1))/\((0<=(n - 1))/\(((n - 1) < ((s1.2.2.1.length:Nat):Int))/\((0<=(aa s1.2.1 4).2.1)/\((0<=(ab (aa s1.2.1 4) n))/\(((ab (aa s1.2.1 4) n) < (((List.length (List.getD s1.2.2.1 (Int.toNat (n - 1)) [])):Nat):Int))/\(k (((),((),())),((aa (aa s1.2.1 4) n),((List.set s1.2.2.1 (Int.toNat (n - 1)) (List.set (List.getD s1.2.2.1 (Int.toNat (n - 1)) []) (Int.toNat (ab (aa s1.2.1 4) n)) 1)),())))))))))) (k (((),((),())),((aa s1.2.1 4),(s1.2.2.1,())))))))) (fk (S:=(brp×(brd×brj))) (fun s2=>((T.ok (.sl (.int .u8)) s2.2.1.1)->((inK .i64 s2.2.1.2.1)->((inK .u64 s2.2.1.2.2)->((T.ok (.sl (.sl (.int .i64))) s2.2.2.1)->(bu (S:=brq) (fun s3=>(fun next1=>((inK .i64 s3.1.2.2.1)->((T.ok (.sl (.int .u8)) s3.2.1.1)->((inK .i64 s3.2.1.2.1)->((inK .u64 s3.2.1.2.2)->((T.ok (.sl (.sl (.int .i64))) s3.2.2.1)->(cnd (decide (s3.1.2.2.1 < n)) (bu (S:=brq) (fun s4=>(fun next2=>((inK .i64 s4.1.2.2.1)->((T.ok (.sl (.int .u8)) s4.2.1.1)->((inK .i64 s4.2.1.2.1)->((inK .u64 s4.2.1.2.2)->((T.ok (.sl (.sl (.int .i64))) s4.2.2.1)->(cnd (decide (s4.1.2.2.1 < n)) (bu (S:=brq) (fun s5=>(fun next3=>((inK .i64 s5.1.2.2.1)->((T.ok (.sl (.int .u8)) s5.2.1.1)->((inK .i64 s5.2.1.2.1)->((inK .u64 s5.2.1.2.2)->((T.ok (.sl (.sl (.int .i64))) s5.2.2.1)->(cnd (decide (s5.1.2.2.1 < n)) ((0<=s4.1.2.2.1)/\((s4.1.2.2.1 < ((s5.2.2.1.length:Nat):Int))/\((0<=s3.1.2.2.1)/\((s3.1.2.2.1 < (((List.length (List.getD s5.2.2.1 s4.1.2.2.1.toNat [])):Nat):Int))/\(((((List.getD (List.getD s5.2.2.1 s4.1.2.2.1.toNat []) s3.1.2.2.1.toNat 0) == 1)=true)->((s3.1.2.2.1 < ((s5.2.2.1.length:Nat):Int))/\(0<=s3.1.2.2.1)))/\(((((List.getD (List.getD s5.2.2.1 s4.1.2.2.1.toNat []) s3.1.2.2.1.toNat 0) == 1)=true)->((s5.1.2.2.1 < (((List.length (List.getD s5.2.2.1 s3.1.2.2.1.toNat [])):Nat):Int))/\(0<=s5.1.2.2.1)))/\(fk (S:=(brp×(brd×brj))) (fun s6=>((T.ok (.sl (.int .u8)) s6.2.1.1)->((inK .i64 s6.2.1.2.1)->((inK .u64 s6.2.1.2.2)->((T.ok (.sl (.sl (.int .i64))) s6.2.2.1)->((inK .i64 (s5.1.2.2.1+1))/\(next3 (((),((),((s5.1.2.2.1+1),()))),(s6.2.1,(s6.2.2.1,())))))))))) (fun k=>(cnd (((List.getD (List.getD s5.2.2.1 s4.1.2.2.1.toNat []) s3.1.2.2.1.toNat 0) == 1) && ((List.getD (List.getD s5.2.2.1 s3.1.2.2.1.toNat []) s5.1.2.2.1.toNat 0) == 1)) ((0<=s4.1.2.2.1)/\((s4.1.2.2.1 < ((s5.2.2.1.length:Nat):Int))/\((0<=s5.1.2.2.1)/\((s5.1.2.2.1 < (((List.length (List.getD s5.2.2.1 s4.1.2.2.1.toNat [])):Nat):Int))/\(k (((),((),())),(s5.2.1,((List.set s5.2.2.1 s4.1.2.2.1.toNat (List.set (List.getD s5.2.2.1 s4.1.2.2.1.toNat []) s5.1.2.2.1.toNat 1)),())))))))) (k (((),((),())),(s5.2.1,(s5.2.2.1,()))))))))))))) ((inK .i64 (s4.1.2.2.1+1))/\(next2 (((),((),((s4.1.2.2.1+1),()))),(s5.2.1,(s5.2.2.1,()))))))))))))) (((),((),(0,()))),(s4.2.1,(s4.2.2.1,())))) ((inK .i64 (s3.1.2.2.1+1))/\(next1 (((),((),((s3.1.2.2.1+1),()))),(s4.2.1,(s4.2.2.1,()))))))))))))) (((),((),(0,()))),(s3.2.1,(s3.2.2.1,())))) (K s3.2.1 (s3.2.2.1,())))))))))) (((),((),(0,()))),(s2.2.1,(s2.2.2.1,()))))))))) (fun k=>(cnd ((decide (1 < n)) && ((0:Int) == 0)) ((inK .i64 (n - 1))/\((0<=(n - 1))/\(((n - 1) < ((s1.2.2.1.length:Nat):Int))/\((0<=s1.2.1.2.1)/\((0<=(ab s1.2.1 n))/\(((ab s1.2.1 n) < (((List.length (List.getD s1.2.2.1 (Int.toNat (n - 1)) [])):Nat):Int))/\(k (((),((),())),((aa s1.2.1 n),((List.set s1.2.2.1 (Int.toNat (n - 1)) (List.set (List.getD s1.2.2.1 (Int.toNat (n - 1)) []) (Int.toNat (ab s1.2.1 n)) 1)),())))))))))) (k (((),((),())),(s1.2.1,(s1.2.2.1,())))))))))))))))) (((),((),(0,()))),(s,([],()))))
theorem aov (x:c7.o.strip.den) (y:bi c7.as) (K:ah->brj->Prop):pc tab (lkp [(79,ez)]) (aw [(12,1600),(13,8000060007)]) Try.f149 (aj Try.f149) ve c7 x y K=pj x y.1 K:=by kernel_rfl
theorem afu:okC Try.f149.ntmps (aw [(12,1600),(13,8000060007)]) (aj Try.f149)=true:=by kernel_rfl
theorem ap5 (s:ah) (n:Int) (hok:ae (c7.o.strip.oks s)) (hok2:ae (okL c7.as (n,()))) (hpre:ae (c7.pre s (n,()))):pj s n (fun z r=>rx s n z r.1):=by
 simp only [c7,O.strip,okL,T.oks,T.ok,ap,ae,true_and,and_true,implies_true]at hok hok2 hpre
 try dsimp only [T.den]at hok
 try dsimp only [T.den]at hok2
 try dsimp only [T.den]at hpre
 unfold pj rx
 obtain ⟨hs0,hn1,hn8⟩:=hpre
 refine ca (fun (s:brq)=>0<=s.1.2.2.1/\s.1.2.2.1<=n/\ck s.2.1/\(s.2.2.1.length:Int)=s.1.2.2.1/\∀ r ∈ s.2.2.1,(r.length:Int)=n) (fun (s:brq)=>(n - s.1.2.2.1).toNat) ?_ ⟨by simp,by (try dsimp only);omega,hs0,by simp,by simp⟩
 rintro ⟨⟨_,_,i,_⟩,s1,m1,_⟩ next ⟨h0,h1,h2,h3,h4⟩ hn
 intros
 try dsimp only at h0 h1 h2 h3 h4 hn ⊢
 refine bf (fun hc=>?_) (fun hc=>?_)
 ·refine ⟨by omega,Int.le_refl _,by omega,by omega,h0,by rw [List.length_replicate];omega,by rw [au];(try dsimp only);omega,?_⟩
  refine ca (fun (s:((Unit×brc)×(brd×(brt×brg))))=>0<=s.1.2.2.2.1/\s.1.2.2.2.1<=n/\ck s.2.1/\s.2.2.1=m1/\(s.2.2.2.1.length:Int)=n) (fun (s:((Unit×brc)×(brd×(brt×brg))))=>(n - s.1.2.2.2.1).toNat) ?_ ⟨by (try dsimp only);omega,by (try dsimp only);omega,h2,rfl,by (try dsimp only);rw [List.length_set,List.length_replicate];omega⟩
  rintro ⟨⟨_,_,_,j,_⟩,s2,m2,row,_⟩ next1 ⟨g0,g1,g2,g3,g4⟩ hn1'
  intros
  try dsimp only at g0 g1 g2 g3 g4 hn1' ⊢
  subst g3
  refine bf (fun hd=>?_) (fun hd=>?_)
  ·exact ⟨g2.2,g0,by omega,by rw [au];(try dsimp only);omega,hn1' _ ⟨by dsimp only;omega,by dsimp only;omega,(je g2 (by rw [au];(try dsimp only);omega)).1,rfl,by rw [List.length_set];exact g4⟩ (by first | omega | (dsimp only;omega))⟩
  ·refine ⟨?_,by rw [au];(try dsimp only);omega,hn _ ⟨by dsimp only;omega,by dsimp only;omega,g2,?_,?_⟩ (by first | omega | (dsimp only;omega))⟩
   ·unfold fg;rw [fy];simp only [List.length_cons,List.length_nil];omega
   ·simp only [List.length_append,List.length_cons,List.length_nil];omega
   ·intro r hr
    rcases List.mem_append.1 hr with hr | hr
    ·exact h4 r hr
    ·simp only [List.mem_singleton]at hr;subst hr;exact g4
 have hR:RowP n m1:=⟨by omega,h4⟩
 have hnx:=je (n:=4) h2 (by rw [au];(try dsimp only);omega)
 have lr:1<=n->((m1.getD (n - 1).toNat []).length:Int)=n:=fun h=>hR.row (i:=n - 1) (by omega) (by omega)
 have lm:=hR.l
 refine ⟨fun hg=>⟨h2.2,dn (fun s2=>ck s2.2.1/\RowP n s2.2.2.1) (fun s2 hs _ _ _ _=>?_) (fun k hk=>be (fun _=>?_) (fun _=>hk _ ⟨hnx.1,hR⟩))⟩,fun hg=>dn (fun s2=>ck s2.2.1/\RowP n s2.2.2.1) (fun s2 hs _ _ _ _=>?_) (fun k hk=>be (fun hx=>?_) (fun _=>hk _ ⟨h2,hR⟩))⟩
 ·skip
  refine ca (fun (s:brq)=>0<=s.1.2.2.1/\s.1.2.2.1<=n/\ck s.2.1/\RowP n s.2.2.1) (fun (s:brq)=>(n - s.1.2.2.1).toNat) ?_ ⟨by simp,by (try dsimp only);omega,hs⟩
  rintro ⟨⟨_,_,k,_⟩,s3,m3,_⟩ next3 ⟨k0,k1,k2,k3⟩ hn3
  intros
  try dsimp only at k0 k1 k2 k3 hn3 ⊢
  refine bf (fun hkc=>?_) (fun _=>⟨k2,k3⟩)
  refine ca (fun (s:brq)=>0<=s.1.2.2.1/\s.1.2.2.1<=n/\ck s.2.1/\RowP n s.2.2.1) (fun (s:brq)=>(n - s.1.2.2.1).toNat) ?_ ⟨by simp,by (try dsimp only);omega,k2,k3⟩
  rintro ⟨⟨_,_,i,_⟩,s4,m4,_⟩ next4 ⟨i0,i1,i2,i3⟩ hn4
  intros
  try dsimp only at i0 i1 i2 i3 hn4 ⊢
  refine bf (fun hic=>?_) (fun _=>⟨by rw [au];(try dsimp only);omega,hn3 _ ⟨by dsimp only;omega,by dsimp only;omega,i2,i3⟩ (by first | omega | (dsimp only;omega))⟩)
  refine ca (fun (s:brq)=>0<=s.1.2.2.1/\s.1.2.2.1<=n/\ck s.2.1/\RowP n s.2.2.1) (fun (s:brq)=>(n - s.1.2.2.1).toNat) ?_ ⟨by simp,by (try dsimp only);omega,i2,i3⟩
  rintro ⟨⟨_,_,j,_⟩,s5,m5,_⟩ next5 ⟨j0,j1,j2,j3⟩ hn5
  intros
  try dsimp only at j0 j1 j2 j3 hn5 ⊢
  refine bf (fun hjc=>?_) (fun _=>⟨by rw [au];(try dsimp only);omega,hn4 _ ⟨by dsimp only;omega,by dsimp only;omega,j2,j3⟩ (by first | omega | (dsimp only;omega))⟩)
  have l1:=j3.l
  have l2:=j3.row i0 hic
  have l3:=j3.row k0 hkc
  refine ⟨i0,by omega,k0,by omega,fun _=>⟨by omega,k0⟩,fun _=>⟨by omega,j0⟩,dn (fun s6=>ck s6.2.1/\RowP n s6.2.2.1) (fun s6 hs6=>?_) (fun kk hkk=>be (fun _=>⟨i0,by omega,j0,by omega,hkk _ ⟨j2,j3.set i0 hic⟩⟩) (fun _=>hkk _ ⟨j2,j3⟩))⟩
  intros
  exact ⟨by rw [au];(try dsimp only);omega,hn5 _ ⟨by dsimp only;omega,by dsimp only;omega,hs6⟩ (by first | omega | (dsimp only;omega))⟩
 ·have hy:=je (n:=n) hnx.1 (by rw [au];(try dsimp only);omega)
  have hn1':1<=n:=by have:=of_decide_eq_true hg;omega
  have hy2:=hy.2.2.1 hn1'
  have lr:=lr hn1'
  exact ⟨by rw [au];(try dsimp only);omega,by omega,by omega,hnx.1.2,hy.2.1,by omega,hk _ ⟨hy.1,hR.set (by omega) (by omega)⟩⟩
 ·skip
  refine ca (fun (s:brq)=>0<=s.1.2.2.1/\s.1.2.2.1<=n/\ck s.2.1/\RowP n s.2.2.1) (fun (s:brq)=>(n - s.1.2.2.1).toNat) ?_ ⟨by simp,by (try dsimp only);omega,hs⟩
  rintro ⟨⟨_,_,k,_⟩,s3,m3,_⟩ next3 ⟨k0,k1,k2,k3⟩ hn3
  intros
  try dsimp only at k0 k1 k2 k3 hn3 ⊢
  refine bf (fun hkc=>?_) (fun _=>⟨k2,k3⟩)
  refine ca (fun (s:brq)=>0<=s.1.2.2.1/\s.1.2.2.1<=n/\ck s.2.1/\RowP n s.2.2.1) (fun (s:brq)=>(n - s.1.2.2.1).toNat) ?_ ⟨by simp,by (try dsimp only);omega,k2,k3⟩
  rintro ⟨⟨_,_,i,_⟩,s4,m4,_⟩ next4 ⟨i0,i1,i2,i3⟩ hn4
  intros
  try dsimp only at i0 i1 i2 i3 hn4 ⊢
  refine bf (fun hic=>?_) (fun _=>⟨by rw [au];(try dsimp only);omega,hn3 _ ⟨by dsimp only;omega,by dsimp only;omega,i2,i3⟩ (by first | omega | (dsimp only;omega))⟩)
  refine ca (fun (s:brq)=>0<=s.1.2.2.1/\s.1.2.2.1<=n/\ck s.2.1/\RowP n s.2.2.1) (fun (s:brq)=>(n - s.1.2.2.1).toNat) ?_ ⟨by simp,by (try dsimp only);omega,i2,i3⟩
  rintro ⟨⟨_,_,j,_⟩,s5,m5,_⟩ next5 ⟨j0,j1,j2,j3⟩ hn5
  intros
  try dsimp only at j0 j1 j2 j3 hn5 ⊢
  refine bf (fun hjc=>?_) (fun _=>⟨by rw [au];(try dsimp only);omega,hn4 _ ⟨by dsimp only;omega,by dsimp only;omega,j2,j3⟩ (by first | omega | (dsimp only;omega))⟩)
  have l1:=j3.l
  have l2:=j3.row i0 hic
  have l3:=j3.row k0 hkc
  refine ⟨i0,by omega,k0,by omega,fun _=>⟨by omega,k0⟩,fun _=>⟨by omega,j0⟩,dn (fun s6=>ck s6.2.1/\RowP n s6.2.2.1) (fun s6 hs6=>?_) (fun kk hkk=>be (fun _=>⟨i0,by omega,j0,by omega,hkk _ ⟨j2,j3.set i0 hic⟩⟩) (fun _=>hkk _ ⟨j2,j3⟩))⟩
  intros
  exact ⟨by rw [au];(try dsimp only);omega,hn5 _ ⟨by dsimp only;omega,by dsimp only;omega,hs6⟩ (by first | omega | (dsimp only;omega))⟩
 ·exfalso
  simp only [Bool.and_eq_true]at hx
  exact hg hx.1
theorem vq (s:ah) (n:Int):∃ q:ah×brj,ae (c7.o.strip.oks s)->ae (okL c7.as (n,()))->ae (c7.pre s (n,()))->pj s n (fun z r=>z=q.1/\r=q.2)/\ae (c7.o.strip.oks q.1)/\ae (okR c7.rt q.2)/\rx s n q.1 q.2.1:=
 xk (f:=149) (Φ:=lkp [(79,ez)]) (am du ba) bo (by kernel_rfl) (fn:=Try.f149) (c:=aj Try.f149) (by kernel_rfl) (by kernel_rfl) (by kernel_rfl) c7 ve (aw [(12,1600),(13,8000060007)]) (ot (by kernel_rfl)) (by kernel_rfl) (by kernel_rfl) afu (by decide) (by kernel_rfl) (by kernel_rfl) bp rfl (by kernel_rfl) (fun x y K=>pj x y.1 K) aov (fun x y z r=>rx x y.1 z r.1) (fun x y h1 h2 h3=>ap5 x y.1 h1 h2 h3) s (n,())
def oi (s:ah) (n:Int):ah:=(vq s n).choose.1
def df (s:ah) (n:Int):List (List Int):=(vq s n).choose.2.1
theorem ap8 (s:ah) (n:Int) (hok:ae (c7.o.strip.oks s)) (hok2:ae (okL c7.as (n,()))) (hpre:ae (c7.pre s (n,()))):ae (c7.o.strip.oks (oi s n))/\ae (okR c7.rt (df s n,()))/\rx s n (oi s n) (df s n):=((vq s n).choose_spec hok hok2 hpre).2
def qk:Wt:=⟨(.pt (.fz bp)),[(.int .i64)],[false],fun x y=>[ck x,0<=y.1,y.1<=8],fun x y=>(oi x y.1),[(false,(.sl (.sl (.fz (.int .i64)))))],fun x y=>((df x y.1),())⟩
def af4:Ct:=ac8 qk
theorem aos (x:qk.o.strip.den) (y:bi qk.as) (K:ah->brj->Prop):pc tab (lkp [(79,ez)]) (aw [(12,1600),(13,8000060007)]) Try.f149 (aj Try.f149) ve qk x y K=pj x y.1 K:=by kernel_rfl
theorem ael:dg Try.prog 149 af4:=
 acx (Φ:=lkp [(79,ez)]) (am du ba) bo (by kernel_rfl) (fn:=Try.f149) (c:=aj Try.f149) (by kernel_rfl) (by kernel_rfl) (by kernel_rfl) qk ve (aw [(12,1600),(13,8000060007)]) (by kernel_rfl) (by kernel_rfl) afu (by decide) (by kernel_rfl) (fun x y h1 h2 h3=>(aos x y _).mpr ((vq x y.1).choose_spec h1 h2 h3).1)
theorem avf {s:ah} {n:Int} (h:ck s) (n1:0<=n) (n8:n<=8):ck (oi s n)/\RowP n (df s n)/\(T.sl (.sl (.int .i64))).ok (df s n):=by
 obtain ⟨_,h2,h3⟩:=ap8 s n h.1 (by simp only [c7,okL,T.oks,ap,ae,and_true,au];omega) ⟨h,n1,n8,trivial⟩
 exact ⟨h3.1,h3.2,h2.1⟩
def jq:Ct:=⟨[],[],fun x=>[],[(true,ku)],fun _=>dfR _,false,none⟩
def wc (r0:ac):Prop:=CgR 5 r0
def pw (K:ac×Unit->Prop):Prop:=(K ((2,((0::(1::(0::(0::(1::[]))))),((0::(1::(0::(1::(0::[]))))),((0::(1::[])),((0::((-1)::(2::(3::((-1)::[])))))::(((-1)::(1::((-1)::((-1)::(4::[])))))::((2::((-1)::(2::(3::((-1)::[])))))::(((-1)::(3::((-1)::((-1)::(2::[])))))::((4::((-1)::(4::(1::((-1)::[])))))::[]))))))))),()))
theorem auf (x:bi jq.args) (K:ac×Unit->Prop):evF tab (lkp []) (aw []) Try.f152 (aj Try.f152) .n jq x K=pw  K:=by kernel_rfl
theorem aju:okC Try.f152.ntmps (aw []) (aj Try.f152)=true:=by kernel_rfl
theorem au8 (hok:ae (okL jq.args (()))) (hpre:ae (jq.pre (()))):pw  (fun r=>wc  r.1):=by
 simp only [jq,okL,T.oks,T.ok,ap,ae,true_and,and_true,implies_true]at hok hpre
 try dsimp only [T.den]at hok
 try dsimp only [T.den]at hpre
 unfold pw wc
 exact ⟨by decide,by decide,by decide,by decide,by decide,by decide,by decide,by decide,by decide,by decide,by decide⟩
theorem aeb:∃ q:ac×Unit,ae (okL jq.args (()))->ae (jq.pre (()))->pw  (fun r=>r=q)/\ae (okR jq.rt q)/\wc  q.1:=
 abv (f:=152) (Φ:=lkp []) ba bo (by kernel_rfl) (fn:=Try.f152) (c:=aj Try.f152) (by kernel_rfl) (by kernel_rfl) (by kernel_rfl) jq .n (aw []) (ot (by kernel_rfl)) (by kernel_rfl) (by kernel_rfl) aju (by decide) (by kernel_rfl) (fun x K=>pw  K) auf (fun x r=>wc  r.1) (fun x h1 h2=>au8  h1 h2) (())
def w7:ac:=(aeb).choose.1
theorem aux (hok:ae (okL jq.args (()))) (hpre:ae (jq.pre (()))):ae (okR jq.rt (w7,()))/\wc  (w7):=((aeb).choose_spec hok hpre).2
def vx:Ct:=⟨[],[],fun x=>[],[(true,ku)],fun x=>((w7),()),false,none⟩
theorem atx (x:bi vx.args) (K:ac×Unit->Prop):evF tab (lkp []) (aw []) Try.f152 (aj Try.f152) .n vx x K=pw  K:=by kernel_rfl
theorem ain:dg Try.prog 152 vx:=
 d7 (Φ:=lkp []) ba bo (by kernel_rfl) (fn:=Try.f152) (c:=aj Try.f152) (by kernel_rfl) (by kernel_rfl) (by kernel_rfl) vx rfl .n (aw []) (by kernel_rfl) (by kernel_rfl) aju (by decide) (fun x K=>pw  K) atx (fun x h1 h2=>((aeb).choose_spec h1 h2).1)
end
end Go.Bm
