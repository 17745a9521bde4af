/- What the functions that FnPathsComposed reaches give: for each its contract, what it asks, and the proof. No condition. -/
import Derived.Test.YtdcandojebpfnaaFnPathsComposedFnsB
namespace Go.Bm
open Go.Proofs
set_option maxRecDepth 100000
set_option maxHeartbeats 1000000
set_option linter.unusedVariables false
set_option linter.unusedSimpArgs false
noncomputable section
def asx (f j g:Int):Nat:=if g < f then 0 else if g=f then j.toNat else 0
def ab5 (c:ac) (k f j:Int):List (List Int):=ce c.2.1.length fun g=>c.2.2.2.2.getD g.toNat []++List.replicate (if g < f then k.toNat else asx f j g) (-1)
def art (m h:Int):Int:=if 0<=h then h+m else h
def bg9 (c d:ac) (f:Int):List Int:=List.replicate c.2.1.length (-1)++ce d.2.1.length fun g=>art c.2.1.length ((d.2.2.2.2.getD f.toNat []).getD g.toNat 0)
def sn (l e:List Int) (n:Nat) (p:Int):List Int:=l++ce n fun y=>e.getD y.toNat 0+p
def sumR (c d:ac):ac:=(c.1+d.1,(sn c.2.1 d.2.1 d.2.1.length c.1,(sn c.2.2.1 d.2.2.1 d.2.1.length c.1,(sn c.2.2.2.1 d.2.2.2.1 d.1.toNat c.2.1.length,ab5 c d.2.1.length c.2.1.length 0++ce d.2.1.length (bg9 c d)))))
theorem aeo {c:ac} {k f j:Int}:(ab5 c k f j).length=c.2.1.length:=c6 _
theorem bbu {c:ac} {k f j g:Int} (g0:0<=g) (g1:g < c.2.1.length):(ab5 c k f j).getD g.toNat []=c.2.2.2.2.getD g.toNat []++List.replicate (if g < f then k.toNat else asx f j g) (-1):=uy g0 g1
theorem bms {c:ac} {k f j:Int} (f0:0<=f) (f1:f < c.2.1.length) (j0:0<=j):(ab5 c k f j).set f.toNat ((ab5 c k f j).getD f.toNat []++[-1])=ab5 c k f (j+1):=by
 rw [bbu f0 f1]
 unfold ab5
 rw [zn f0 f1]
 refine ep fun i i0 i1=>?_
 by_cases e:i=f
 ·subst e
  rw [if_pos rfl,if_neg (Int.lt_irrefl _),if_neg (Int.lt_irrefl _)]
  unfold asx
  rw [if_neg (Int.lt_irrefl _),if_pos rfl,if_neg (Int.lt_irrefl _),if_pos rfl,List.append_assoc,show (j+1).toNat=j.toNat+1 from by omega,List.replicate_succ']
 ·rw [if_neg e]
  unfold asx
  by_cases h:i < f
  ·rw [if_pos h,if_pos h]
  ·rw [if_neg h,if_neg h,if_neg e,if_neg h,if_neg h,if_neg e]
theorem bix {c:ac} {k f:Int}:ab5 c k f k=ab5 c k (f+1) 0:=by
 refine ep fun i i0 i1=>?_
 unfold asx
 by_cases h:i < f
 ·rw [if_pos h,if_pos (by omega)]
 ·by_cases e:i=f
  ·rw [if_neg h,if_neg h,if_pos e,if_pos (by omega)]
  ·rw [if_neg h,if_neg h,if_neg e,if_neg (by omega),if_neg (by omega)];split <;> rfl
theorem bp1 {c:ac} {k:Int} (h:c.2.2.2.2.length=c.2.1.length):ab5 c k 0 0=c.2.2.2.2:=by
 conv=>rhs;rw [← blu [] c.2.2.2.2]
 unfold ab5
 rw [h]
 refine ep fun i i0 i1=>?_
 unfold asx
 rw [if_neg (by omega),if_neg (by omega)]
 have:(if i=0 then (0:Int).toNat else 0)=0:=by split <;> rfl
 rw [this];exact List.append_nil _
theorem yy {l e:List Int} {n:Nat} {p:Int}:(sn l e n p).length=l.length+n:=by unfold sn;rw [List.length_append,c6]
theorem bdj {l e:List Int} {y p:Int} (h:0<=y):sn l e y.toNat p++[e.getD y.toNat 0+p]=sn l e (y+1).toNat p:=by unfold sn;rw [yc h,List.append_assoc]
theorem ayn {l e:List Int} {n:Nat} {p a b:Int} (hl:∀ x ∈ l,0<=x/\x<=a) (he:∀ x ∈ e,0<=x/\x<=b) (hn:n<=e.length) (p0:0<=p) (p1:p<=a) (b0:0<=b):∀ x ∈ sn l e n p,0<=x/\x<=a+b:=by
 intro x hx
 rcases List.mem_append.1 hx with h | h
 ·have:=hl x h;omega
 ·obtain ⟨i,i0,i1,rfl⟩:=n7.1 h
  have:=he _ (gf e 0 i0 (by omega))
  omega
theorem bp0 {a b:Int} {c d:ac} (h:CgR a c) (g:CgR b d):CgR (a+b) (sumR c d):=by
 have a1:=h.b1;have a2:=h.ob0;have a3:=h.ob;have a4:=h.m;have a5:=h.lt;have a6:=h.li;have a7:=h.lc
 have b1:=g.b1;have b2:=g.ob0;have b3:=g.ob;have b4:=g.m;have b5:=g.lt;have b6:=g.li;have b7:=g.lc
 refine ⟨by omega,by show 0<=c.1+d.1;omega,by show c.1+d.1<=a+b;omega,?_,?_,?_,?_,ayn h.fr g.fr (Nat.le_refl _) a2 a3 (by omega),ayn h.to g.to (by omega) a2 a3 (by omega),ayn h.id g.id (by omega) (by omega) (by omega) (by omega),?_⟩
 ·show ((sn _ _ _ _).length:Int)<=a+b;rw [yy];omega
 ·show (sn _ _ _ _).length=(sn _ _ _ _).length;rw [yy,yy];omega
 ·show ((sn _ _ _ _).length:Int)=c.1+d.1;rw [yy];omega
 ·show (_++_:List (List Int)).length=(sn _ _ _ _).length;rw [yy,List.length_append,aeo,c6]
 ·intro r hr
  have hl:(sumR c d).2.1.length=c.2.1.length+d.2.1.length:=yy
  rw [hl]
  rcases List.mem_append.1 hr with hr | hr
  ·obtain ⟨i,i0,i1,rfl⟩:=n7.1 hr
   have hh:=h.row _ (gf c.2.2.2.2 [] i0 (by omega))
   rw [if_pos i1]
   refine ⟨by rw [List.length_append,List.length_replicate,hh.1,Int.toNat_natCast],fun x hx=>?_⟩
   rcases List.mem_append.1 hx with hx | hx
   ·have:=hh.2 x hx;omega
   ·rw [List.eq_of_mem_replicate hx];omega
  ·obtain ⟨i,i0,i1,rfl⟩:=n7.1 hr
   have hh:=g.row _ (gf d.2.2.2.2 [] i0 (by omega))
   unfold bg9
   refine ⟨by rw [List.length_append,List.length_replicate,c6],fun x hx=>?_⟩
   rcases List.mem_append.1 hx with hx | hx
   ·rw [List.eq_of_mem_replicate hx];omega
   ·obtain ⟨j,j0,j1,rfl⟩:=n7.1 hx
    have:=hh.2 _ (gf _ 0 j0 (by rw [hh.1];exact j1))
    unfold art
    split <;> omega
def iy:Ct:=⟨[bj,bj],[true,true],fun x=>[CgR 1000000000000 x.1,CgR 1000000000000 x.2.1],[(true,ku)],fun _=>dfR _,false,none⟩
def zi (c:ac) (d:ac) (r0:ac):Prop:=∀ a b:Int,CgR a c->CgR b d->CgR (a+b) r0
def abp:Ann:=(.s .n (.s .n (.s .n (.s .n (.s (.s .n (.l [(4,(.ad 4 [.de])),(7,(.ad 7 [.de])),(8,(.d (.int .i64)))] [(4,(.pt (.p (.fz (.int .i64)) (.p (.sl (.fz (.int .i64))) (.p (.sl (.fz (.int .i64))) (.p (.sl (.fz (.int .i64))) (.sl (.sl (.fz (.int .i64)))))))))),(7,(.pt (.p (.fz (.int .i64)) (.p (.sl (.fz (.int .i64))) (.p (.sl (.fz (.int .i64))) (.p (.sl (.fz (.int .i64))) (.sl (.sl (.fz (.int .i64))))))))))] [3,5,6] .n)) (.s (.s .n (.l [(4,(.ad 4 [.de])),(7,(.ad 7 [.de])),(9,(.d (.int .i64)))] [(4,(.pt (.p (.fz (.int .i64)) (.p (.sl (.fz (.int .i64))) (.p (.sl (.fz (.int .i64))) (.p (.sl (.fz (.int .i64))) (.sl (.sl (.fz (.int .i64)))))))))),(7,(.pt (.p (.fz (.int .i64)) (.p (.sl (.fz (.int .i64))) (.p (.sl (.fz (.int .i64))) (.p (.sl (.fz (.int .i64))) (.sl (.sl (.fz (.int .i64))))))))))] [3,5,6] (.s .n (.s (.s .n (.l [(4,(.ad 4 [.de])),(7,(.ad 7 [.de])),(10,(.d (.int .i64)))] [(4,(.pt (.p (.fz (.int .i64)) (.p (.sl (.fz (.int .i64))) (.p (.sl (.fz (.int .i64))) (.p (.sl (.fz (.int .i64))) (.sl (.sl (.fz (.int .i64)))))))))),(7,(.pt (.p (.fz (.int .i64)) (.p (.sl (.fz (.int .i64))) (.p (.sl (.fz (.int .i64))) (.p (.sl (.fz (.int .i64))) (.sl (.sl (.fz (.int .i64))))))))))] [3,5,6,9] .n)) .n)))) (.s (.s .n (.l [(4,(.ad 4 [.de])),(7,(.ad 7 [.de])),(11,(.d (.int .i64)))] [(4,(.pt (.p (.fz (.int .i64)) (.p (.sl (.fz (.int .i64))) (.p (.sl (.fz (.int .i64))) (.p (.sl (.fz (.int .i64))) (.sl (.sl (.fz (.int .i64)))))))))),(7,(.pt (.p (.fz (.int .i64)) (.p (.sl (.fz (.int .i64))) (.p (.sl (.fz (.int .i64))) (.p (.sl (.fz (.int .i64))) (.sl (.sl (.fz (.int .i64))))))))))] [3,5,6] (.s .n (.s (.s .n (.s .n (.s .n (.s (.s .n (.l [(4,(.ad 4 [.de])),(7,(.ad 7 [.de])),(12,(.ref 800012 [])),(13,(.d (.int .i64)))] [(4,(.pt (.p (.fz (.int .i64)) (.p (.sl (.fz (.int .i64))) (.p (.sl (.fz (.int .i64))) (.p (.sl (.fz (.int .i64))) (.sl (.sl (.fz (.int .i64)))))))))),(7,(.pt (.p (.fz (.int .i64)) (.p (.sl (.fz (.int .i64))) (.p (.sl (.fz (.int .i64))) (.p (.sl (.fz (.int .i64))) (.sl (.sl (.fz (.int .i64)))))))))),(800012,(.sl (.fz (.int .i64))))] [3,5,6,11] .n)) (.s (.s .n (.l [(4,(.ad 4 [.de])),(7,(.ad 7 [.de])),(12,(.ref 800012 [])),(14,(.d (.int .i64)))] [(4,(.pt (.p (.fz (.int .i64)) (.p (.sl (.fz (.int .i64))) (.p (.sl (.fz (.int .i64))) (.p (.sl (.fz (.int .i64))) (.sl (.sl (.fz (.int .i64)))))))))),(7,(.pt (.p (.fz (.int .i64)) (.p (.sl (.fz (.int .i64))) (.p (.sl (.fz (.int .i64))) (.p (.sl (.fz (.int .i64))) (.sl (.sl (.fz (.int .i64)))))))))),(800012,(.sl (.fz (.int .i64))))] [3,5,6,11] (.s .n (.s (.s .n (.s (.s .n (.j [(4,(.ad 4 [.de])),(7,(.ad 7 [.de])),(12,(.ref 800012 [])),(15,(.d (.int .i64)))] [(4,(.pt (.p (.fz (.int .i64)) (.p (.sl (.fz (.int .i64))) (.p (.sl (.fz (.int .i64))) (.p (.sl (.fz (.int .i64))) (.sl (.sl (.fz (.int .i64)))))))))),(7,(.pt (.p (.fz (.int .i64)) (.p (.sl (.fz (.int .i64))) (.p (.sl (.fz (.int .i64))) (.p (.sl (.fz (.int .i64))) (.sl (.sl (.fz (.int .i64)))))))))),(800012,(.sl (.fz (.int .i64))))] [3,5,6,11,14] .n)) .n)) .n)))) .n))))) .n)))) .n)))))))
def sr (c:ac) (d:ac) (K:ac×Unit->Prop):Prop:=((OwcR c)/\((inK .i64 (c.1+d.1))/\(bu (S:=(brc×brf)) (fun s=>(fun next=>((inK .i64 s.1.2.2.1)->((inK .i64 s.2.1.1)->((T.ok (.sl (.int .i64)) s.2.1.2.1)->((T.ok (.sl (.int .i64)) s.2.1.2.2.1)->((T.ok (.sl (.int .i64)) s.2.1.2.2.2.1)->((T.ok (.sl (.sl (.int .i64))) s.2.1.2.2.2.2)->((inK .i64 s.2.2.1.1)->((T.ok (.sl (.int .i64)) s.2.2.1.2.1)->((T.ok (.sl (.int .i64)) s.2.2.1.2.2.1)->((T.ok (.sl (.int .i64)) s.2.2.1.2.2.2.1)->((T.ok (.sl (.sl (.int .i64))) s.2.2.1.2.2.2.2)->(cnd (decide (s.1.2.2.1 < d.1)) ((0<=s.1.2.2.1)/\((s.1.2.2.1 < ((d.2.2.2.1.length:Nat):Int))/\((inK .i64 ((List.getD d.2.2.2.1 s.1.2.2.1.toNat 0)+((c.2.1.length:Nat):Int)))/\((fg s.2.2.1.2.2.2.1.length (List.length (((List.getD d.2.2.2.1 s.1.2.2.1.toNat 0)+((c.2.1.length:Nat):Int))::[])) 8)/\((inK .i64 (s.1.2.2.1+1))/\(next (((),((),((s.1.2.2.1+1),()))),(s.2.1,((s.2.2.1.1,(s.2.2.1.2.1,(s.2.2.1.2.2.1,((s.2.2.1.2.2.2.1++(((List.getD d.2.2.2.1 s.1.2.2.1.toNat 0)+((c.2.1.length:Nat):Int))::[])),s.2.2.1.2.2.2.2)))),()))))))))) (bu (S:=(brc×brf)) (fun s1=>(fun next1=>((inK .i64 s1.1.2.2.1)->((inK .i64 s1.2.1.1)->((T.ok (.sl (.int .i64)) s1.2.1.2.1)->((T.ok (.sl (.int .i64)) s1.2.1.2.2.1)->((T.ok (.sl (.int .i64)) s1.2.1.2.2.2.1)->((T.ok (.sl (.sl (.int .i64))) s1.2.1.2.2.2.2)->((inK .i64 s1.2.2.1.1)->((T.ok (.sl (.int .i64)) s1.2.2.1.2.1)->((T.ok (.sl (.int .i64)) s1.2.2.1.2.2.1)->((T.ok (.sl (.int .i64)) s1.2.2.1.2.2.2.1)->((T.ok (.sl (.sl (.int .i64))) s1.2.2.1.2.2.2.2)->(cnd (decide (s1.1.2.2.1 < ((s1.2.2.1.2.2.2.2.length:Nat):Int))) (bu (S:=(brc×brf)) (fun s2=>(fun next2=>((inK .i64 s2.1.2.2.1)->((inK .i64 s2.2.1.1)->((T.ok (.sl (.int .i64)) s2.2.1.2.1)->((T.ok (.sl (.int .i64)) s2.2.1.2.2.1)->((T.ok (.sl (.int .i64)) s2.2.1.2.2.2.1)->((T.ok (.sl (.sl (.int .i64))) s2.2.1.2.2.2.2)->((inK .i64 s2.2.2.1.1)->((T.ok (.sl (.int .i64)) s2.2.2.1.2.1)->((T.ok (.sl (.int .i64)) s2.2.2.1.2.2.1)->((T.ok (.sl (.int .i64)) s2.2.2.1.2.2.2.1)->((T.ok (.sl (.sl (.int .i64))) s2.2.2.1.2.2.2.2)->(cnd (decide (s2.1.2.2.1 < ((d.2.1.length:Nat):Int))) ((0<=s1.1.2.2.1)/\((s1.1.2.2.1 < ((s2.2.2.1.2.2.2.2.length:Nat):Int))/\((fg (List.length (List.getD s2.2.2.1.2.2.2.2 s1.1.2.2.1.toNat [])) (List.length ((-1)::[])) 8)/\((0<=s1.1.2.2.1)/\((s1.1.2.2.1 < (((List.length (ae9 s2.2.2.1.2.2.2.2 s1.1.2.2.1.toNat)):Nat):Int))/\(((as2 (List.set (ae9 s2.2.2.1.2.2.2.2 s1.1.2.2.1.toNat) s1.1.2.2.1.toNat (Option.some ((List.getD s2.2.2.1.2.2.2.2 s1.1.2.2.1.toNat [])++((-1)::[])))))=true)/\((inK .i64 (s2.1.2.2.1+1))/\(next2 (((),((),((s2.1.2.2.1+1),()))),(s2.2.1,((s2.2.2.1.1,(s2.2.2.1.2.1,(s2.2.2.1.2.2.1,(s2.2.2.1.2.2.2.1,(ae6 [] (List.set (ae9 s2.2.2.1.2.2.2.2 s1.1.2.2.1.toNat) s1.1.2.2.1.toNat (Option.some ((List.getD s2.2.2.1.2.2.2.2 s1.1.2.2.1.toNat [])++((-1)::[]))))))))),()))))))))))) ((inK .i64 (s1.1.2.2.1+1))/\(next1 (((),((),((s1.1.2.2.1+1),()))),(s2.2.1,(s2.2.2.1,()))))))))))))))))))) (((),((),(0,()))),(s1.2.1,(s1.2.2.1,())))) (bu (S:=(brc×brf)) (fun s2=>(fun next2=>((inK .i64 s2.1.2.2.1)->((inK .i64 s2.2.1.1)->((T.ok (.sl (.int .i64)) s2.2.1.2.1)->((T.ok (.sl (.int .i64)) s2.2.1.2.2.1)->((T.ok (.sl (.int .i64)) s2.2.1.2.2.2.1)->((T.ok (.sl (.sl (.int .i64))) s2.2.1.2.2.2.2)->((inK .i64 s2.2.2.1.1)->((T.ok (.sl (.int .i64)) s2.2.2.1.2.1)->((T.ok (.sl (.int .i64)) s2.2.2.1.2.2.1)->((T.ok (.sl (.int .i64)) s2.2.2.1.2.2.2.1)->((T.ok (.sl (.sl (.int .i64))) s2.2.2.1.2.2.2.2)->(cnd (decide (s2.1.2.2.1 < ((d.2.1.length:Nat):Int))) ((0<=s2.1.2.2.1)/\((s2.1.2.2.1 < ((d.2.1.length:Nat):Int))/\((inK .i64 ((List.getD d.2.1 s2.1.2.2.1.toNat 0)+c.1))/\((fg s2.2.2.1.2.1.length (List.length (((List.getD d.2.1 s2.1.2.2.1.toNat 0)+c.1)::[])) 8)/\((0<=s2.1.2.2.1)/\((s2.1.2.2.1 < ((d.2.2.1.length:Nat):Int))/\((inK .i64 ((List.getD d.2.2.1 s2.1.2.2.1.toNat 0)+c.1))/\((fg s2.2.2.1.2.2.1.length (List.length (((List.getD d.2.2.1 s2.1.2.2.1.toNat 0)+c.1)::[])) 8)/\(bu (S:=bre) (fun s3=>(fun next3=>((inK .i64 s3.1.2.2.2.1)->((inK .i64 s3.2.1.1)->((T.ok (.sl (.int .i64)) s3.2.1.2.1)->((T.ok (.sl (.int .i64)) s3.2.1.2.2.1)->((T.ok (.sl (.int .i64)) s3.2.1.2.2.2.1)->((T.ok (.sl (.sl (.int .i64))) s3.2.1.2.2.2.2)->((inK .i64 s3.2.2.1.1)->((T.ok (.sl (.int .i64)) s3.2.2.1.2.1)->((T.ok (.sl (.int .i64)) s3.2.2.1.2.2.1)->((T.ok (.sl (.int .i64)) s3.2.2.1.2.2.2.1)->((T.ok (.sl (.sl (.int .i64))) s3.2.2.1.2.2.2.2)->((T.ok (.sl (.int .i64)) s3.2.2.2.1)->(cnd (decide (s3.1.2.2.2.1 < ((c.2.1.length:Nat):Int))) ((fg s3.2.2.2.1.length (List.length ((-1)::[])) 8)/\((inK .i64 (s3.1.2.2.2.1+1))/\(next3 (((),((),((),((s3.1.2.2.2.1+1),())))),(s3.2.1,(s3.2.2.1,((s3.2.2.2.1++((-1)::[])),()))))))) (bu (S:=bre) (fun s4=>(fun next4=>((inK .i64 s4.1.2.2.2.1)->((inK .i64 s4.2.1.1)->((T.ok (.sl (.int .i64)) s4.2.1.2.1)->((T.ok (.sl (.int .i64)) s4.2.1.2.2.1)->((T.ok (.sl (.int .i64)) s4.2.1.2.2.2.1)->((T.ok (.sl (.sl (.int .i64))) s4.2.1.2.2.2.2)->((inK .i64 s4.2.2.1.1)->((T.ok (.sl (.int .i64)) s4.2.2.1.2.1)->((T.ok (.sl (.int .i64)) s4.2.2.1.2.2.1)->((T.ok (.sl (.int .i64)) s4.2.2.1.2.2.2.1)->((T.ok (.sl (.sl (.int .i64))) s4.2.2.1.2.2.2.2)->((T.ok (.sl (.int .i64)) s4.2.2.2.1)->(cnd (decide (s4.1.2.2.2.1 < ((d.2.1.length:Nat):Int))) ((0<=s2.1.2.2.1)/\((s2.1.2.2.1 < ((d.2.2.2.2.length:Nat):Int))/\((0<=s4.1.2.2.2.1)/\((s4.1.2.2.2.1 < (((List.length (List.getD d.2.2.2.2 s2.1.2.2.1.toNat [])):Nat):Int))/\(fk (S:=bre) (fun s5=>((inK .i64 s5.1.2.2.2.1)->((inK .i64 s5.2.1.1)->((T.ok (.sl (.int .i64)) s5.2.1.2.1)->((T.ok (.sl (.int .i64)) s5.2.1.2.2.1)->((T.ok (.sl (.int .i64)) s5.2.1.2.2.2.1)->((T.ok (.sl (.sl (.int .i64))) s5.2.1.2.2.2.2)->((inK .i64 s5.2.2.1.1)->((T.ok (.sl (.int .i64)) s5.2.2.1.2.1)->((T.ok (.sl (.int .i64)) s5.2.2.1.2.2.1)->((T.ok (.sl (.int .i64)) s5.2.2.1.2.2.2.1)->((T.ok (.sl (.sl (.int .i64))) s5.2.2.1.2.2.2.2)->((T.ok (.sl (.int .i64)) s5.2.2.2.1)->((fg s5.2.2.2.1.length (List.length (s5.1.2.2.2.1::[])) 8)/\((inK .i64 (s4.1.2.2.2.1+1))/\(next4 (((),((),((),((s4.1.2.2.2.1+1),())))),(s5.2.1,(s5.2.2.1,((s5.2.2.2.1++(s5.1.2.2.2.1::[])),())))))))))))))))))))) (fun k=>(cnd (decide (0<=(List.getD (List.getD d.2.2.2.2 s2.1.2.2.1.toNat []) s4.1.2.2.2.1.toNat 0))) ((inK .i64 ((List.getD (List.getD d.2.2.2.2 s2.1.2.2.1.toNat []) s4.1.2.2.2.1.toNat 0)+((c.2.1.length:Nat):Int)))/\(k (((),((),((),(((List.getD (List.getD d.2.2.2.2 s2.1.2.2.1.toNat []) s4.1.2.2.2.1.toNat 0)+((c.2.1.length:Nat):Int)),())))),(s4.2.1,(s4.2.2.1,(s4.2.2.2.1,())))))) (k (((),((),((),((List.getD (List.getD d.2.2.2.2 s2.1.2.2.1.toNat []) s4.1.2.2.2.1.toNat 0),())))),(s4.2.1,(s4.2.2.1,(s4.2.2.2.1,())))))))))))) ((fg s4.2.2.1.2.2.2.2.length (List.length (s4.2.2.2.1::[])) 24)/\((inK .i64 (s2.1.2.2.1+1))/\(next2 (((),((),((s2.1.2.2.1+1),()))),(s4.2.1,((s4.2.2.1.1,(s4.2.2.1.2.1,(s4.2.2.1.2.2.1,(s4.2.2.1.2.2.2.1,(s4.2.2.1.2.2.2.2++(s4.2.2.2.1::[])))))),()))))))))))))))))))))) (((),((),((),(0,())))),(s3.2.1,(s3.2.2.1,(s3.2.2.2.1,())))))))))))))))))))) (((),((),((),(0,())))),(s2.2.1,((s2.2.2.1.1,((s2.2.2.1.2.1++(((List.getD d.2.1 s2.1.2.2.1.toNat 0)+c.1)::[])),((s2.2.2.1.2.2.1++(((List.getD d.2.2.1 s2.1.2.2.1.toNat 0)+c.1)::[])),s2.2.2.1.2.2.2))),([],()))))))))))))) (K (s2.2.2.1,())))))))))))))))) (((),((),(0,()))),(s1.2.1,(s1.2.2.1,())))))))))))))))))) (((),((),(0,()))),(s.2.1,(s.2.2.1,())))))))))))))))))) (((),((),(0,()))),((0,([],([],([],[])))),(((c.1+d.1),c.2),()))))))
theorem az2 (x:bi iy.args) (K:ac×Unit->Prop):evF tab (lkp [(141,kj)]) (aw [(1,6),(18,510),(19,510),(7,510),(14,85008)]) Try.f138 (aj Try.f138) abp iy x K=sr x.1 x.2.1 K:=by kernel_rfl
theorem aoi:okC Try.f138.ntmps (aw [(1,6),(18,510),(19,510),(7,510),(14,85008)]) (aj Try.f138)=true:=by kernel_rfl
theorem azw (c:ac) (d:ac) (hok:ae (okL iy.args (c,d,()))) (hpre:ae (iy.pre (c,d,()))):sr c d (fun r=>zi c d r.1):=by
 simp only [iy,okL,T.oks,T.ok,ap,ae,true_and,and_true,implies_true]at hok hpre
 try dsimp only [T.den]at hok
 try dsimp only [T.den]at hpre
 unfold sr zi
 obtain ⟨Hc,Hd⟩:=hpre
 have a2:=Hc.ob0;have a3:=Hc.ob;have a4:=Hc.m;have a5:=Hc.lt;have a6:=Hc.li;have a7:=Hc.lc
 have b2:=Hd.ob0;have b3:=Hd.ob;have b4:=Hd.m;have b5:=Hd.lt;have b6:=Hd.li;have b7:=Hd.lc
 clear hok
 refine ⟨bjq Hc (Int.le_refl _),by rw [au];(try dsimp only);omega,?_⟩
 refine ca (fun (s:(brc×brf))=>0<=s.1.2.2.1/\s.1.2.2.1<=d.1/\s.2.2.1=(c.1+d.1,(c.2.1,(c.2.2.1,(sn c.2.2.2.1 d.2.2.2.1 s.1.2.2.1.toNat c.2.1.length,c.2.2.2.2))))) (fun (s:(brc×brf))=>(d.1 - s.1.2.2.1).toNat) ?_ ⟨by simp,b2,by simp [sn,ce]⟩
 rintro ⟨⟨_,_,y,_⟩,o1,out,_⟩ next ⟨y0,y1,hq⟩ hnx _ _ _ _ _ _ _ _ _ _ _
 try dsimp only at y0 y1 hq hnx ⊢
 subst hq
 refine bf (fun hy=>?_) (fun hy=>?_)
 ·have:=Hd.idG y0 hy
  exact ⟨y0,by omega,by rw [au];(try dsimp only);omega,cw (by dsimp only;rw [yy];simp only [List.length_cons,List.length_nil];omega),by rw [au];(try dsimp only);omega,hnx _ ⟨(by first | omega | (dsimp only;omega)),(by first | omega | (dsimp only;omega)),by dsimp only;rw [bdj y0]⟩ (by first | omega | (dsimp only;omega))⟩
 have ey:y=d.1:=by omega
 subst ey
 refine ca (fun (s:(brc×brf))=>0<=s.1.2.2.1/\s.1.2.2.1<=c.2.1.length/\s.2.2.1=(c.1+d.1,(c.2.1,(c.2.2.1,(sn c.2.2.2.1 d.2.2.2.1 d.1.toNat c.2.1.length,ab5 c d.2.1.length s.1.2.2.1 0))))) (fun (s:(brc×brf))=>(c.2.1.length - s.1.2.2.1).toNat) ?_ ⟨by simp,by simp,by dsimp only;rw [bp1 a7]⟩
 rintro ⟨⟨_,_,f,_⟩,o2,out,_⟩ next1 ⟨f0,f1,hq⟩ hn1 _ _ _ _ _ _ _ _ _ _ _
 try dsimp only at f0 f1 hq hn1 ⊢
 subst hq
 refine bf (fun hf=>?_) (fun hf=>?_)
 ·rw [aeo]at hf
  refine ca (fun (s:(brc×brf))=>0<=s.1.2.2.1/\s.1.2.2.1<=d.2.1.length/\s.2.2.1=(c.1+d.1,(c.2.1,(c.2.2.1,(sn c.2.2.2.1 d.2.2.2.1 d.1.toNat c.2.1.length,ab5 c d.2.1.length f s.1.2.2.1))))) (fun (s:(brc×brf))=>(d.2.1.length - s.1.2.2.1).toNat) ?_ ⟨by simp,by simp,rfl⟩
  rintro ⟨⟨_,_,g,_⟩,o3,out,_⟩ next2 ⟨g0,g1,hq⟩ hn2 _ _ _ _ _ _ _ _ _ _ _
  try dsimp only at g0 g1 hq hn2 ⊢
  subst hq
  refine bf (fun hg=>?_) (fun hg=>?_)
  ·have hr:=Hc.rowG f0 hf
   have hl:((ab5 c d.2.1.length f g).getD f.toNat []).length=c.2.1.length+g.toNat:=by
    rw [bbu f0 hf,List.length_append,List.length_replicate,hr,if_neg (Int.lt_irrefl _),asx,if_neg (Int.lt_irrefl _),if_pos rfl]
   try dsimp only
   refine ⟨f0,by rw [aeo];exact hf,cw (by rw [hl];simp only [List.length_cons,List.length_nil];omega),f0,by rw [bnv,aeo];exact hf,bou,by rw [au];(try dsimp only);omega,hn2 _ ⟨(by first | omega | (dsimp only;omega)),(by first | omega | (dsimp only;omega)),?_⟩ (by first | omega | (dsimp only;omega))⟩
   try dsimp only
   rw [bo1,bms f0 hf g0]
  ·have eg:g=d.2.1.length:=by omega
   subst eg
   exact ⟨by rw [au];(try dsimp only);omega,hn1 _ ⟨(by first | omega | (dsimp only;omega)),(by first | omega | (dsimp only;omega)),by dsimp only;rw [bix]⟩ (by first | omega | (dsimp only;omega))⟩
 rw [aeo]at hf
 have ef:f=c.2.1.length:=by omega
 subst ef
 refine ca (fun (s:(brc×brf))=>0<=s.1.2.2.1/\s.1.2.2.1<=d.2.1.length/\s.2.2.1=(c.1+d.1,(sn c.2.1 d.2.1 s.1.2.2.1.toNat c.1,(sn c.2.2.1 d.2.2.1 s.1.2.2.1.toNat c.1,(sn c.2.2.2.1 d.2.2.2.1 d.1.toNat c.2.1.length,ab5 c d.2.1.length c.2.1.length 0++ce s.1.2.2.1.toNat (bg9 c d)))))) (fun (s:(brc×brf))=>(d.2.1.length - s.1.2.2.1).toNat) ?_ ⟨by simp,by simp,by simp [sn,ce]⟩
 rintro ⟨⟨_,_,f,_⟩,o3,out,_⟩ next2 ⟨f0,f1,hq⟩ hn2 _ _ _ _ _ _ _ _ _ _ _
 try dsimp only at f0 f1 hq hn2 ⊢
 subst hq
 refine bf (fun hf=>?_) (fun hf=>?_)
 ·have h1:=Hd.frG f0 hf
  have h2:=Hd.toG f0 hf
  have h3:=Hd.rowG f0 hf
  refine ⟨f0,hf,by rw [au];(try dsimp only);omega,cw (by dsimp only;rw [yy];simp only [List.length_cons,List.length_nil];omega),f0,by omega,by rw [au];(try dsimp only);omega,cw (by dsimp only;rw [yy];simp only [List.length_cons,List.length_nil];omega),?_⟩
  refine ca (fun (s:bre)=>0<=s.1.2.2.2.1/\s.1.2.2.2.1<=c.2.1.length/\s.2.2.1=(c.1+d.1,(sn c.2.1 d.2.1 (f+1).toNat c.1,(sn c.2.2.1 d.2.2.1 (f+1).toNat c.1,(sn c.2.2.2.1 d.2.2.2.1 d.1.toNat c.2.1.length,ab5 c d.2.1.length c.2.1.length 0++ce f.toNat (bg9 c d)))))/\s.2.2.2.1=List.replicate s.1.2.2.2.1.toNat (-1)) (fun (s:bre)=>(c.2.1.length - s.1.2.2.2.1).toNat) ?_ ⟨by simp,by simp,by dsimp only;rw [bdj f0,bdj f0],rfl⟩
  rintro ⟨⟨_,_,_,g,_⟩,o4,out,row,_⟩ next3 ⟨g0,g1,hq,hr⟩ hn3 _ _ _ _ _ _ _ _ _ _ _ _
  try dsimp only at g0 g1 hq hr hn3 ⊢
  subst hr
  refine bf (fun hg=>?_) (fun hg=>?_)
  ·exact ⟨cw (by rw [List.length_replicate];simp only [List.length_cons,List.length_nil];omega),by rw [au];(try dsimp only);omega,hn3 _ ⟨(by first | omega | (dsimp only;omega)),(by first | omega | (dsimp only;omega)),hq,by dsimp only;rw [show (g+1).toNat=g.toNat+1 from by omega,List.replicate_succ']⟩ (by first | omega | (dsimp only;omega))⟩
  have eg:g=c.2.1.length:=by omega
  subst eg
  refine ca (fun (s:bre)=>0<=s.1.2.2.2.1/\s.1.2.2.2.1<=d.2.1.length/\s.2.2.1=out/\s.2.2.2.1=List.replicate c.2.1.length (-1)++ce s.1.2.2.2.1.toNat fun g=>art c.2.1.length ((d.2.2.2.2.getD f.toNat []).getD g.toNat 0)) (fun (s:bre)=>(d.2.1.length - s.1.2.2.2.1).toNat) ?_ ⟨by simp,by simp,rfl,by simp [ce]⟩
  rintro ⟨⟨_,_,_,g,_⟩,o5,out2,row,_⟩ next4 ⟨g0,g1,hq2,hr⟩ hn4 _ _ _ _ _ _ _ _ _ _ _ _
  try dsimp only at g0 g1 hq2 hr hn4 ⊢
  subst hr;subst hq2
  refine bf (fun hg=>?_) (fun hg=>?_)
  ·have hc:=Hd.cel f0 hf g0 hg
   refine ⟨f0,by omega,g0,by omega,dn (fun (q:bre)=>q.1.2.2.2.1=art c.2.1.length ((d.2.2.2.2.getD f.toNat []).getD g.toNat 0)/\q.2.2.1=out2/\q.2.2.2.1=List.replicate c.2.1.length (-1)++ce g.toNat fun g=>art c.2.1.length ((d.2.2.2.2.getD f.toNat []).getD g.toNat 0)) ?_ ?_⟩
   ·rintro ⟨⟨_,_,_,h,_⟩,o6,out3,row,_⟩ ⟨q1,q2,q3⟩ _ _ _ _ _ _ _ _ _ _ _ _
    try dsimp only at q1 q2 q3 ⊢
    subst q1;subst q2;subst q3
    refine ⟨cw (by rw [List.length_append,List.length_replicate,c6];simp only [List.length_cons,List.length_nil];omega),by rw [au];(try dsimp only);omega,hn4 _ ⟨(by first | omega | (dsimp only;omega)),(by first | omega | (dsimp only;omega)),rfl,?_⟩ (by first | omega | (dsimp only;omega))⟩
    try dsimp only
    rw [yc g0,List.append_assoc]
   ·intro k hk
    refine bf (fun hh=>⟨by rw [au];(try dsimp only);omega,hk _ ⟨?_,rfl,rfl⟩⟩) (fun hh=>hk _ ⟨?_,rfl,rfl⟩)
    ·try dsimp only;unfold art;rw [if_pos hh]
    ·try dsimp only;unfold art;rw [if_neg hh]
  ·have eg:g=d.2.1.length:=by omega
   subst eg
   subst hq
   try dsimp only
   refine ⟨cw (by rw [List.length_append,aeo,c6];simp only [List.length_cons,List.length_nil];omega),by rw [au];(try dsimp only);omega,hn2 _ ⟨(by first | omega | (dsimp only;omega)),(by first | omega | (dsimp only;omega)),?_⟩ (by first | omega | (dsimp only;omega))⟩
   try dsimp only
   rw [yc f0,← List.append_assoc]
   rfl
 have ef:f=d.2.1.length:=by omega
 subst ef
 exact fun a b h1 h2=>bp0 h1 h2
theorem ags (c:ac) (d:ac):∃ q:ac×Unit,ae (okL iy.args (c,d,()))->ae (iy.pre (c,d,()))->sr c d (fun r=>r=q)/\ae (okR iy.rt q)/\zi c d q.1:=
 abv (f:=138) (Φ:=lkp [(141,kj)]) (am abs ba) bo (by kernel_rfl) (fn:=Try.f138) (c:=aj Try.f138) (by kernel_rfl) (by kernel_rfl) (by kernel_rfl) iy abp (aw [(1,6),(18,510),(19,510),(7,510),(14,85008)]) (ot (by kernel_rfl)) (by kernel_rfl) (by kernel_rfl) aoi (by decide) (by kernel_rfl) (fun x K=>sr x.1 x.2.1 K) az2 (fun x r=>zi x.1 x.2.1 r.1) (fun x h1 h2=>azw x.1 x.2.1 h1 h2) (c,d,())
def ip (c:ac) (d:ac):ac:=(ags c d).choose.1
theorem bah (c:ac) (d:ac) (hok:ae (okL iy.args (c,d,()))) (hpre:ae (iy.pre (c,d,()))):ae (okR iy.rt (ip c d,()))/\zi c d (ip c d):=((ags c d).choose_spec hok hpre).2
def oz:Ct:=⟨[bj,bj],[true,true],fun x=>[CgR 1000000000000 x.1,CgR 1000000000000 x.2.1],[(true,ku)],fun x=>((ip x.1 x.2.1),()),false,none⟩
theorem ayc (x:bi oz.args) (K:ac×Unit->Prop):evF tab (lkp [(141,kj)]) (aw [(1,6),(18,510),(19,510),(7,510),(14,85008)]) Try.f138 (aj Try.f138) abp oz x K=sr x.1 x.2.1 K:=by kernel_rfl
theorem aa4:dg Try.prog 138 oz:=
 d7 (Φ:=lkp [(141,kj)]) (am abs ba) bo (by kernel_rfl) (fn:=Try.f138) (c:=aj Try.f138) (by kernel_rfl) (by kernel_rfl) (by kernel_rfl) oz rfl abp (aw [(1,6),(18,510),(19,510),(7,510),(14,85008)]) (by kernel_rfl) (by kernel_rfl) aoi (by decide) (fun x K=>sr x.1 x.2.1 K) ayc (fun x h1 h2=>((ags x.1 x.2.1).choose_spec h1 h2).1)
theorem bnd {a b:Int} {c d:ac} (hok:ae (okL iy.args (c,d,()))) (h:CgR a c) (g:CgR b d) (ha:a<=1000000000000) (hb:b<=1000000000000):CgR (a+b) (ip c d):=(bah c d hok ⟨h.le ha,g.le hb,trivial⟩).2 a b h g
theorem aci {x y a b:Int} (x0:0<=x) (x1:x<=a) (y0:0<=y) (y1:y<=b):0<=x * y/\x * y<=a * b:=⟨Int.mul_nonneg x0 y0,Int.le_trans (Int.mul_le_mul_of_nonneg_right x1 y0) (Int.mul_le_mul_of_nonneg_left y1 (Int.le_trans x0 x1))⟩
structure RwB (k b:Int) (w:List Int):Prop where
 l:(w.length:Int)=k
 e:∀ x ∈ w,-b<=x/\x<=b
theorem RwB.push {k b x:Int} {l:List Int} (h:RwB k b l) (h0:-b<=x) (h1:x<=b):RwB (k+1) b (l++[x]):=
 ⟨by rw [List.length_append];have:=h.l;simp only [List.length_cons,List.length_nil];omega,fun y hy=>by
  rcases List.mem_append.1 hy with hy | hy
  ·exact h.e y hy
  ·rw [List.mem_singleton.1 hy];exact ⟨h0,h1⟩⟩
structure TbB (k n b:Int) (t:List (List Int)):Prop where
 l:(t.length:Int)=k
 e:∀ r ∈ t,RwB n b r
theorem TbB.push {k n b:Int} {t:List (List Int)} {r:List Int} (h:TbB k n b t) (hr:RwB n b r):TbB (k+1) n b (t++[r]):=
 ⟨by rw [List.length_append];have:=h.l;simp only [List.length_cons,List.length_nil];omega,fun y hy=>by
  rcases List.mem_append.1 hy with hy | hy
  ·exact h.e y hy
  ·rw [List.mem_singleton.1 hy];exact hr⟩
theorem axx {l:List Int} {p:Int->Prop} {x:Int} (h:∀ y ∈ l,p y) (hx:p x):∀ y ∈ l++[x],p y:=fun y hy=>by
 rcases List.mem_append.1 hy with hy | hy
 ·exact h y hy
 ·rw [List.mem_singleton.1 hy];exact hx
structure JoC (r:ac) (b:Int) (c:ac):Prop where
 ob:c.1=r.1
 lt:c.2.2.1.length=c.2.1.length
 m:(c.2.1.length:Int)<=b
 fr:∀ x ∈ c.2.1,0<=x/\x<=128
 to:∀ x ∈ c.2.2.1,0<=x/\x<=128
 re:c.2.2.2=r.2.2.2
theorem JoC.le {r:ac} {a b:Int} {c:ac} (h:JoC r a c) (hb:a<=b):JoC r b c:=⟨h.ob,h.lt,by have:=h.m;omega,h.fr,h.to,h.re⟩
def ji:Ct:=⟨[bj,bj],[true,true],fun x=>[CgR 64 x.1,CgR 64 x.2.1],[(true,ku)],fun _=>dfR _,false,none⟩
def xy (c:ac) (d:ac) (r0:ac):Prop:=CgR 10000 r0
def aal:Ann:=(.s .n (.s .n (.s .n (.s (.s .n (.l [(4,(.ad 4 [.de])),(5,(.ad 5 [.de])),(7,(.d (.int .i64)))] [(4,(.pt (.p (.fz (.int .i64)) (.p (.sl (.fz (.int .i64))) (.p (.sl (.fz (.int .i64))) (.p (.sl (.fz (.int .i64))) (.sl (.sl (.fz (.int .i64)))))))))),(5,(.pt (.p (.fz (.int .i64)) (.p (.sl (.fz (.int .i64))) (.p (.sl (.fz (.int .i64))) (.p (.sl (.fz (.int .i64))) (.sl (.sl (.fz (.int .i64))))))))))] [2,3,6] (.s .n (.s (.s .n (.l [(4,(.ad 4 [.de])),(5,(.ad 5 [.de])),(8,(.d (.int .i64)))] [(4,(.pt (.p (.fz (.int .i64)) (.p (.sl (.fz (.int .i64))) (.p (.sl (.fz (.int .i64))) (.p (.sl (.fz (.int .i64))) (.sl (.sl (.fz (.int .i64)))))))))),(5,(.pt (.p (.fz (.int .i64)) (.p (.sl (.fz (.int .i64))) (.p (.sl (.fz (.int .i64))) (.p (.sl (.fz (.int .i64))) (.sl (.sl (.fz (.int .i64))))))))))] [2,3,6,7] .n)) .n)))) (.s .n (.s (.s .n (.l [(4,(.ad 4 [.de])),(5,(.ad 5 [.de])),(9,(.ref 800009 [])),(10,(.d (.int .i64)))] [(4,(.pt (.p (.fz (.int .i64)) (.p (.sl (.fz (.int .i64))) (.p (.sl (.fz (.int .i64))) (.p (.sl (.fz (.int .i64))) (.sl (.sl (.fz (.int .i64)))))))))),(5,(.pt (.p (.fz (.int .i64)) (.p (.sl (.fz (.int .i64))) (.p (.sl (.fz (.int .i64))) (.p (.sl (.fz (.int .i64))) (.sl (.sl (.fz (.int .i64)))))))))),(800009,(.sl (.sl (.fz (.int .i64)))))] [2,3,6] (.s .n (.s (.s .n (.s (.s .n (.l [(4,(.ad 4 [.de])),(5,(.ad 5 [.de])),(9,(.ref 800009 [])),(11,(.ref 800011 [])),(12,(.d (.int .i64)))] [(4,(.pt (.p (.fz (.int .i64)) (.p (.sl (.fz (.int .i64))) (.p (.sl (.fz (.int .i64))) (.p (.sl (.fz (.int .i64))) (.sl (.sl (.fz (.int .i64)))))))))),(5,(.pt (.p (.fz (.int .i64)) (.p (.sl (.fz (.int .i64))) (.p (.sl (.fz (.int .i64))) (.p (.sl (.fz (.int .i64))) (.sl (.sl (.fz (.int .i64)))))))))),(800009,(.sl (.sl (.fz (.int .i64))))),(800011,(.sl (.fz (.int .i64))))] [2,3,6,10] (.s .n (.s (.s .n (.s (.s .n (.j [(4,(.ad 4 [.de])),(5,(.ad 5 [.de])),(9,(.ref 800009 [])),(11,(.ref 800011 [])),(13,(.d (.int .i64)))] [(4,(.pt (.p (.fz (.int .i64)) (.p (.sl (.fz (.int .i64))) (.p (.sl (.fz (.int .i64))) (.p (.sl (.fz (.int .i64))) (.sl (.sl (.fz (.int .i64)))))))))),(5,(.pt (.p (.fz (.int .i64)) (.p (.sl (.fz (.int .i64))) (.p (.sl (.fz (.int .i64))) (.p (.sl (.fz (.int .i64))) (.sl (.sl (.fz (.int .i64)))))))))),(800009,(.sl (.sl (.fz (.int .i64))))),(800011,(.sl (.fz (.int .i64))))] [2,3,6,10,12] (.s .n (.s .n (.j [(4,(.ad 4 [.de])),(5,(.ad 5 [.de])),(9,(.ref 800009 [])),(11,(.ref 800011 [])),(13,(.d (.int .i64)))] [(4,(.pt (.p (.fz (.int .i64)) (.p (.sl (.fz (.int .i64))) (.p (.sl (.fz (.int .i64))) (.p (.sl (.fz (.int .i64))) (.sl (.sl (.fz (.int .i64)))))))))),(5,(.pt (.p (.fz (.int .i64)) (.p (.sl (.fz (.int .i64))) (.p (.sl (.fz (.int .i64))) (.p (.sl (.fz (.int .i64))) (.sl (.sl (.fz (.int .i64)))))))))),(800009,(.sl (.sl (.fz (.int .i64))))),(800011,(.sl (.fz (.int .i64))))] [2,3,6,10,12] .n))))) .n)) .n)))) .n)) .n)))) .n))))))
def q9 (c:ac) (d:ac) (K:ac×Unit->Prop):Prop:=((CgR 1000000000000 c)/\((CgR 1000000000000 d)/\(bu (S:=(brc×brf)) (fun s=>(fun next=>((inK .i64 s.1.2.2.1)->((inK .i64 s.2.1.1)->((T.ok (.sl (.int .i64)) s.2.1.2.1)->((T.ok (.sl (.int .i64)) s.2.1.2.2.1)->((T.ok (.sl (.int .i64)) s.2.1.2.2.2.1)->((T.ok (.sl (.sl (.int .i64))) s.2.1.2.2.2.2)->((inK .i64 s.2.2.1.1)->((T.ok (.sl (.int .i64)) s.2.2.1.2.1)->((T.ok (.sl (.int .i64)) s.2.2.1.2.2.1)->((T.ok (.sl (.int .i64)) s.2.2.1.2.2.2.1)->((T.ok (.sl (.sl (.int .i64))) s.2.2.1.2.2.2.2)->(cnd (decide (s.1.2.2.1 < c.1)) (bu (S:=(brc×brf)) (fun s1=>(fun next1=>((inK .i64 s1.1.2.2.1)->((inK .i64 s1.2.1.1)->((T.ok (.sl (.int .i64)) s1.2.1.2.1)->((T.ok (.sl (.int .i64)) s1.2.1.2.2.1)->((T.ok (.sl (.int .i64)) s1.2.1.2.2.2.1)->((T.ok (.sl (.sl (.int .i64))) s1.2.1.2.2.2.2)->((inK .i64 s1.2.2.1.1)->((T.ok (.sl (.int .i64)) s1.2.2.1.2.1)->((T.ok (.sl (.int .i64)) s1.2.2.1.2.2.1)->((T.ok (.sl (.int .i64)) s1.2.2.1.2.2.2.1)->((T.ok (.sl (.sl (.int .i64))) s1.2.2.1.2.2.2.2)->(cnd (decide (s1.1.2.2.1 < d.1)) ((fg s1.2.2.1.2.1.length (List.length (s.1.2.2.1::[])) 8)/\((inK .i64 (c.1+s1.1.2.2.1))/\((fg s1.2.2.1.2.2.1.length (List.length ((c.1+s1.1.2.2.1)::[])) 8)/\((inK .i64 (s1.1.2.2.1+1))/\(next1 (((),((),((s1.1.2.2.1+1),()))),(s1.2.1,((s1.2.2.1.1,((s1.2.2.1.2.1++(s.1.2.2.1::[])),((s1.2.2.1.2.2.1++((c.1+s1.1.2.2.1)::[])),s1.2.2.1.2.2.2))),())))))))) ((inK .i64 (s.1.2.2.1+1))/\(next (((),((),((s.1.2.2.1+1),()))),(s1.2.1,(s1.2.2.1,()))))))))))))))))))) (((),((),(0,()))),(s.2.1,(s.2.2.1,())))) (bu (S:=((Unit×brc)×(brb×(brb×brj)))) (fun s1=>(fun next1=>((inK .i64 s1.1.2.2.2.1)->((inK .i64 s1.2.1.1)->((T.ok (.sl (.int .i64)) s1.2.1.2.1)->((T.ok (.sl (.int .i64)) s1.2.1.2.2.1)->((T.ok (.sl (.int .i64)) s1.2.1.2.2.2.1)->((T.ok (.sl (.sl (.int .i64))) s1.2.1.2.2.2.2)->((inK .i64 s1.2.2.1.1)->((T.ok (.sl (.int .i64)) s1.2.2.1.2.1)->((T.ok (.sl (.int .i64)) s1.2.2.1.2.2.1)->((T.ok (.sl (.int .i64)) s1.2.2.1.2.2.2.1)->((T.ok (.sl (.sl (.int .i64))) s1.2.2.1.2.2.2.2)->((T.ok (.sl (.sl (.int .i64))) s1.2.2.2.1)->(cnd (decide (s1.1.2.2.2.1 < ((s1.2.2.1.2.1.length:Nat):Int))) (bu (S:=bro) (fun s2=>(fun next2=>((inK .i64 s2.1.2.2.2.2.1)->((inK .i64 s2.2.1.1)->((T.ok (.sl (.int .i64)) s2.2.1.2.1)->((T.ok (.sl (.int .i64)) s2.2.1.2.2.1)->((T.ok (.sl (.int .i64)) s2.2.1.2.2.2.1)->((T.ok (.sl (.sl (.int .i64))) s2.2.1.2.2.2.2)->((inK .i64 s2.2.2.1.1)->((T.ok (.sl (.int .i64)) s2.2.2.1.2.1)->((T.ok (.sl (.int .i64)) s2.2.2.1.2.2.1)->((T.ok (.sl (.int .i64)) s2.2.2.1.2.2.2.1)->((T.ok (.sl (.sl (.int .i64))) s2.2.2.1.2.2.2.2)->((T.ok (.sl (.sl (.int .i64))) s2.2.2.2.1)->((T.ok (.sl (.int .i64)) s2.2.2.2.2.1)->(cnd (decide (s2.1.2.2.2.2.1 < ((s2.2.2.1.2.1.length:Nat):Int))) ((0<=s1.1.2.2.2.1)/\((s1.1.2.2.2.1 < ((s2.2.2.1.2.2.1.length:Nat):Int))/\((0<=s2.1.2.2.2.2.1)/\((s2.1.2.2.2.2.1 < ((s2.2.2.1.2.1.length:Nat):Int))/\(fk (S:=bro) (fun s3=>((inK .i64 s3.1.2.2.2.2.1)->((inK .i64 s3.2.1.1)->((T.ok (.sl (.int .i64)) s3.2.1.2.1)->((T.ok (.sl (.int .i64)) s3.2.1.2.2.1)->((T.ok (.sl (.int .i64)) s3.2.1.2.2.2.1)->((T.ok (.sl (.sl (.int .i64))) s3.2.1.2.2.2.2)->((inK .i64 s3.2.2.1.1)->((T.ok (.sl (.int .i64)) s3.2.2.1.2.1)->((T.ok (.sl (.int .i64)) s3.2.2.1.2.2.1)->((T.ok (.sl (.int .i64)) s3.2.2.1.2.2.2.1)->((T.ok (.sl (.sl (.int .i64))) s3.2.2.1.2.2.2.2)->((T.ok (.sl (.sl (.int .i64))) s3.2.2.2.1)->((T.ok (.sl (.int .i64)) s3.2.2.2.2.1)->((fg s3.2.2.2.2.1.length (List.length (s3.1.2.2.2.2.1::[])) 8)/\((inK .i64 (s2.1.2.2.2.2.1+1))/\(next2 (((),((),((),((),((s2.1.2.2.2.2.1+1),()))))),(s3.2.1,(s3.2.2.1,(s3.2.2.2.1,((s3.2.2.2.2.1++(s3.1.2.2.2.2.1::[])),())))))))))))))))))))))) (fun k=>(cnd ((List.getD s2.2.2.1.2.2.1 s1.1.2.2.2.1.toNat 0) != (List.getD s2.2.2.1.2.1 s2.1.2.2.2.2.1.toNat 0)) (k (((),((),((),((),((-1),()))))),(s2.2.1,(s2.2.2.1,(s2.2.2.2.1,(s2.2.2.2.2.1,())))))) (fk (S:=bro) (fun s3=>((inK .i64 s3.1.2.2.2.2.1)->((inK .i64 s3.2.1.1)->((T.ok (.sl (.int .i64)) s3.2.1.2.1)->((T.ok (.sl (.int .i64)) s3.2.1.2.2.1)->((T.ok (.sl (.int .i64)) s3.2.1.2.2.2.1)->((T.ok (.sl (.sl (.int .i64))) s3.2.1.2.2.2.2)->((inK .i64 s3.2.2.1.1)->((T.ok (.sl (.int .i64)) s3.2.2.1.2.1)->((T.ok (.sl (.int .i64)) s3.2.2.1.2.2.1)->((T.ok (.sl (.int .i64)) s3.2.2.1.2.2.2.1)->((T.ok (.sl (.sl (.int .i64))) s3.2.2.1.2.2.2.2)->((T.ok (.sl (.sl (.int .i64))) s3.2.2.2.1)->((T.ok (.sl (.int .i64)) s3.2.2.2.2.1)->(k (((),((),((),((),(s3.1.2.2.2.2.1,()))))),(s3.2.1,(s3.2.2.1,(s3.2.2.2.1,(s3.2.2.2.2.1,())))))))))))))))))))) (fun k1=>(cnd ((decide (s1.1.2.2.2.1 < (((List.length (ip c d).2.1):Nat):Int))) && (decide (s2.1.2.2.2.2.1 < (((List.length (ip c d).2.1):Nat):Int)))) ((0<=s1.1.2.2.2.1)/\((s1.1.2.2.2.1 < ((s2.2.2.1.2.2.2.2.length:Nat):Int))/\((0<=s2.1.2.2.2.2.1)/\((s2.1.2.2.2.2.1 < (((List.length (List.getD s2.2.2.1.2.2.2.2 s1.1.2.2.2.1.toNat [])):Nat):Int))/\(k1 (((),((),((),((),((List.getD (List.getD s2.2.2.1.2.2.2.2 s1.1.2.2.2.1.toNat []) s2.1.2.2.2.2.1.toNat 0),()))))),(s2.2.1,(s2.2.2.1,(s2.2.2.2.1,(s2.2.2.2.2.1,())))))))))) ((0<=s1.1.2.2.2.1)/\((s1.1.2.2.2.1 < ((s2.2.2.1.2.1.length:Nat):Int))/\((inK .i64 ((List.getD s2.2.2.1.2.1 s1.1.2.2.2.1.toNat 0) * d.1))/\((inK .i64 ((((List.length (ip c d).2.1):Nat):Int)+((List.getD s2.2.2.1.2.1 s1.1.2.2.2.1.toNat 0) * d.1)))/\((0<=s2.1.2.2.2.2.1)/\((s2.1.2.2.2.2.1 < ((s2.2.2.1.2.2.1.length:Nat):Int))/\((inK .i64 (((((List.length (ip c d).2.1):Nat):Int)+((List.getD s2.2.2.1.2.1 s1.1.2.2.2.1.toNat 0) * d.1))+(List.getD s2.2.2.1.2.2.1 s2.1.2.2.2.2.1.toNat 0)))/\((inK .i64 ((((((List.length (ip c d).2.1):Nat):Int)+((List.getD s2.2.2.1.2.1 s1.1.2.2.2.1.toNat 0) * d.1))+(List.getD s2.2.2.1.2.2.1 s2.1.2.2.2.2.1.toNat 0)) - c.1))/\(k1 (((),((),((),((),(((((((List.length (ip c d).2.1):Nat):Int)+((List.getD s2.2.2.1.2.1 s1.1.2.2.2.1.toNat 0) * d.1))+(List.getD s2.2.2.1.2.2.1 s2.1.2.2.2.2.1.toNat 0)) - c.1),()))))),(s2.2.1,(s2.2.2.1,(s2.2.2.2.1,(s2.2.2.2.2.1,())))))))))))))))))))))))) ((fg s2.2.2.2.1.length (List.length (s2.2.2.2.2.1::[])) 24)/\((inK .i64 (s1.1.2.2.2.1+1))/\(next1 (((),((),((),((s1.1.2.2.2.1+1),())))),(s2.2.1,(s2.2.2.1,((s2.2.2.2.1++(s2.2.2.2.2.1::[])),()))))))))))))))))))))))) (((),((),((),((),(0,()))))),(s1.2.1,(s1.2.2.1,(s1.2.2.2.1,([],())))))) (K ((s1.2.2.1.1,(s1.2.2.1.2.1,(s1.2.2.1.2.2.1,(s1.2.2.1.2.2.2.1,s1.2.2.2.1)))),()))))))))))))))))) (((),((),((),(0,())))),(s.2.1,(s.2.2.1,([],()))))))))))))))))))) (((),((),(0,()))),((0,([],([],([],[])))),((ip c d),()))))))
theorem ayb (x:bi ji.args) (K:ac×Unit->Prop):evF tab (lkp [(138,oz)]) (aw [(20,18),(21,10)]) Try.f154 (aj Try.f154) aal ji x K=q9 x.1 x.2.1 K:=by kernel_rfl
theorem alo:okC Try.f154.ntmps (aw [(20,18),(21,10)]) (aj Try.f154)=true:=by kernel_rfl
theorem axl (c:ac) (d:ac) (hok:ae (okL ji.args (c,d,()))) (hpre:ae (ji.pre (c,d,()))):q9 c d (fun r=>xy c d r.1):=by
 simp only [ji,okL,T.oks,T.ok,ap,ae,true_and,and_true,implies_true]at hok hpre
 try dsimp only [T.den]at hok
 try dsimp only [T.den]at hpre
 unfold q9 xy
 obtain ⟨Hc,Hd⟩:=hpre
 have Hs:=bnd (c:=c) (d:=d) (by simp only [iy,okL,T.oks,T.ok,ap,ae,true_and,and_true,implies_true];exact hok) Hc Hd (by omega) (by omega)
 refine ⟨Hc.le (by omega),Hd.le (by omega),?_⟩
 clear hok
 generalize ip c d=r at *
 have c0:=Hc.ob0;have c1:=Hc.ob;have d0:=Hd.ob0;have d1:=Hd.ob
 have rm:=Hs.m;have rl:=Hs.lt;have rc:=Hs.lc
 refine ca (fun (s:(brc×brf))=>0<=s.1.2.2.1/\s.1.2.2.1<=c.1/\JoC r (128+64 * s.1.2.2.1) s.2.2.1) (fun (s:(brc×brf))=>(c.1 - s.1.2.2.1).toNat) ?_ ⟨by simp,c0,⟨rfl,rl,by (try dsimp only);omega,Hs.fr,Hs.to,rfl⟩⟩
 rintro ⟨⟨_,_,x,_⟩,o1,out,_⟩ next ⟨x0,x1,hJ⟩ hnx
 intros
 try dsimp only at x0 x1 hJ hnx ⊢
 refine bf (fun hx=>?_) (fun hx=>?_)
 ·refine ca (fun (s:(brc×brf))=>0<=s.1.2.2.1/\s.1.2.2.1<=d.1/\JoC r (128+64 * x+s.1.2.2.1) s.2.2.1) (fun (s:(brc×brf))=>(d.1 - s.1.2.2.1).toNat) ?_ ⟨by simp,d0,hJ.le (by (try dsimp only);omega)⟩
  rintro ⟨⟨_,_,y,_⟩,o2,out2,_⟩ next1 ⟨y0,y1,hJ2⟩ hn1
  intros
  try dsimp only at y0 y1 hJ2 hn1 ⊢
  have jm:=hJ2.m;have jl:=hJ2.lt
  refine bf (fun hy=>?_) (fun hy=>?_)
  ·refine ⟨cw (by simp only [List.length_cons,List.length_nil];omega),by rw [au];(try dsimp only);omega,cw (by simp only [List.length_cons,List.length_nil];omega),by rw [au];(try dsimp only);omega,hn1 _ ⟨by dsimp only;omega,by dsimp only;omega,⟨hJ2.ob,?_,?_,axx hJ2.fr (by omega),axx hJ2.to (by omega),hJ2.re⟩⟩ (by first | omega | (dsimp only;omega))⟩
   ·try dsimp only;simp only [List.length_append,List.length_cons,List.length_nil];omega
   ·try dsimp only;simp only [List.length_append,List.length_cons,List.length_nil];omega
  ·exact ⟨by rw [au];(try dsimp only);omega,hnx _ ⟨by dsimp only;omega,by dsimp only;omega,hJ2.le (by dsimp only;omega)⟩ (by first | omega | (dsimp only;omega))⟩
 replace hJ:=hJ.le (b:=4224) (by omega)
 clear hnx
 have jm:=hJ.m;have jl:=hJ.lt
 have hco:out.2.2.2.2=r.2.2.2.2:=by rw [hJ.re]
 refine ca (fun (s:((Unit×brc)×(brb×(brb×brj))))=>0<=s.1.2.2.2.1/\s.1.2.2.2.1<=out.2.1.length/\s.2.2.1=out/\TbB s.1.2.2.2.1 out.2.1.length 10000 s.2.2.2.1) (fun (s:((Unit×brc)×(brb×(brb×brj))))=>(out.2.1.length - s.1.2.2.2.1).toNat) ?_ ⟨by simp,by simp,rfl,⟨rfl,by simp⟩⟩
 rintro ⟨⟨_,_,_,f,_⟩,o2,out2,t,_⟩ next1 ⟨f0,f1,q1,hT⟩ hn1
 intros
 try dsimp only at f0 f1 q1 hT hn1 ⊢
 subst q1
 have tl:=hT.l
 refine bf (fun hf=>?_) (fun hf=>?_)
 ·refine ca (fun (s:bro)=>0<=s.1.2.2.2.2.1/\s.1.2.2.2.2.1<=out2.2.1.length/\s.2.2.1=out2/\s.2.2.2.1=t/\RwB s.1.2.2.2.2.1 10000 s.2.2.2.2.1) (fun (s:bro)=>(out2.2.1.length - s.1.2.2.2.2.1).toNat) ?_ ⟨by simp,by simp,rfl,rfl,⟨rfl,by simp⟩⟩
  rintro ⟨⟨_,_,_,_,g,_⟩,o3,out3,t3,row,_⟩ next2 ⟨g0,g1,q1,q2,hR⟩ hn2
  intros
  try dsimp only at g0 g1 q1 q2 hR hn2 ⊢
  subst q1;subst q2
  have hl:=hR.l
  refine bf (fun hg=>?_) (fun hg=>?_)
  ·have af:=hJ.fr _ (gf out3.2.1 0 f0 hf)
   have ag:=hJ.to _ (gf out3.2.2.1 0 g0 (by omega))
   have hm:=aci af.1 af.2 d0 d1
   refine ⟨f0,by omega,g0,hg,dn (fun (q:bro)=>-10000<=q.1.2.2.2.2.1/\q.1.2.2.2.2.1<=10000/\q.2.2.1=out3/\q.2.2.2.1=t3/\q.2.2.2.2.1=row) ?_ (fun k hk=>be (fun _=>hk _ ⟨by dsimp only;omega,by dsimp only;omega,rfl,rfl,rfl⟩) (fun _=>dn (fun (q:bro)=>-10000<=q.1.2.2.2.2.1/\q.1.2.2.2.2.1<=10000/\q.2.2.1=out3/\q.2.2.2.1=t3/\q.2.2.2.2.1=row) ?_ (fun k1 hk1=>be (fun hb=>?_) (fun _=>?_))))⟩
   ·rintro ⟨⟨_,_,_,_,h,_⟩,o4,out4,t4,row4,_⟩ ⟨q1,q2,q3,q4,q5⟩
    intros
    try dsimp only at q1 q2 q3 q4 q5 ⊢
    subst q3;subst q4;subst q5
    exact ⟨cw (by simp only [List.length_cons,List.length_nil];omega),by rw [au];(try dsimp only);omega,hn2 _ ⟨by dsimp only;omega,by dsimp only;omega,rfl,rfl,hR.push q1 q2⟩ (by first | omega | (dsimp only;omega))⟩
   ·rintro ⟨⟨_,_,_,_,h,_⟩,o4,out4,t4,row4,_⟩ ⟨q1,q2,q3,q4,q5⟩
    intros
    exact hk _ ⟨q1,q2,q3,q4,q5⟩
   ·simp only [Bool.and_eq_true,decide_eq_true_eq]at hb
    have hrow:=Hs.rowG f0 hb.1
    have hcel:=Hs.cel f0 hb.1 g0 hb.2
    rw [hco]
    exact ⟨f0,by omega,g0,by omega,hk1 _ ⟨by dsimp only;omega,by dsimp only;omega,rfl,rfl,rfl⟩⟩
   ·exact ⟨f0,hf,by rw [au];(try dsimp only);omega,by rw [au];(try dsimp only);omega,g0,by omega,by rw [au];(try dsimp only);omega,by rw [au];(try dsimp only);omega,hk1 _ ⟨by dsimp only;omega,by dsimp only;omega,rfl,rfl,rfl⟩⟩
  ·have e:g=out3.2.1.length:=by omega
   rw [e]at hR
   exact ⟨cw (by simp only [List.length_cons,List.length_nil];omega),by rw [au];(try dsimp only);omega,hn1 _ ⟨by dsimp only;omega,by dsimp only;omega,rfl,hT.push hR⟩ (by first | omega | (dsimp only;omega))⟩
 have ef:f=out2.2.1.length:=by omega
 rw [ef]at hT
 have tl:=hT.l
 have hob:=hJ.ob
 have hid:out2.2.2.2.1=r.2.2.2.1:=by rw [hJ.re]
 refine ⟨by omega,by dsimp only;have:=Hs.ob0;omega,by dsimp only;have:=Hs.ob;omega,by dsimp only;omega,jl,by dsimp only;rw [hid,hob];exact Hs.li,by dsimp only;omega,fun x hx=>by have:=hJ.fr x hx;omega,fun x hx=>by have:=hJ.to x hx;omega,fun x hx=>by dsimp only at hx;rw [hid]at hx;have:=Hs.id x hx;omega,fun w hw=>?_⟩
 have h:=hT.e w hw
 exact ⟨by have:=h.l;dsimp only;omega,h.e⟩
theorem ae7 (c:ac) (d:ac):∃ q:ac×Unit,ae (okL ji.args (c,d,()))->ae (ji.pre (c,d,()))->q9 c d (fun r=>r=q)/\ae (okR ji.rt q)/\xy c d q.1:=
 abv (f:=154) (Φ:=lkp [(138,oz)]) (am aa4 ba) bo (by kernel_rfl) (fn:=Try.f154) (c:=aj Try.f154) (by kernel_rfl) (by kernel_rfl) (by kernel_rfl) ji aal (aw [(20,18),(21,10)]) (ot (by kernel_rfl)) (by kernel_rfl) (by kernel_rfl) alo (by decide) (by kernel_rfl) (fun x K=>q9 x.1 x.2.1 K) ayb (fun x r=>xy x.1 x.2.1 r.1) (fun x h1 h2=>axl x.1 x.2.1 h1 h2) (c,d,())
def pd (c:ac) (d:ac):ac:=(ae7 c d).choose.1
theorem axq (c:ac) (d:ac) (hok:ae (okL ji.args (c,d,()))) (hpre:ae (ji.pre (c,d,()))):ae (okR ji.rt (pd c d,()))/\xy c d (pd c d):=((ae7 c d).choose_spec hok hpre).2
def x4:Ct:=⟨[bj,bj],[true,true],fun x=>[CgR 64 x.1,CgR 64 x.2.1],[(true,ku)],fun x=>((pd x.1 x.2.1),()),false,none⟩
theorem auy (x:bi x4.args) (K:ac×Unit->Prop):evF tab (lkp [(138,oz)]) (aw [(20,18),(21,10)]) Try.f154 (aj Try.f154) aal x4 x K=q9 x.1 x.2.1 K:=by kernel_rfl
theorem akf:dg Try.prog 154 x4:=
 d7 (Φ:=lkp [(138,oz)]) (am aa4 ba) bo (by kernel_rfl) (fn:=Try.f154) (c:=aj Try.f154) (by kernel_rfl) (by kernel_rfl) (by kernel_rfl) x4 rfl aal (aw [(20,18),(21,10)]) (by kernel_rfl) (by kernel_rfl) alo (by decide) (fun x K=>q9 x.1 x.2.1 K) auy (fun x h1 h2=>((ae7 x.1 x.2.1).choose_spec h1 h2).1)
def opR (c:ac):ac:=(c.1,c.2.2.1,c.2.1,c.2.2.2.1,(ce c.2.1.length fun f=>ce c.2.1.length fun g=>cq c g f))
structure SqR (c:ac):Prop where
 m:c.2.1.length<=1000000000
 lt:c.2.2.1.length=c.2.1.length
 li:c.2.2.2.1.length<=1000000000
 lc:c.2.2.2.2.length=c.2.1.length
 row:∀ f:Int,0<=f->f < c.2.1.length->(c.2.2.2.2.getD f.toNat []).length=c.2.1.length
theorem bqk {b:Int} {c:ac} (h:CgR b c) (hb:b<=1000000000):SqR c:=⟨by have:=h.m;omega,h.lt,by have:=h.li;have:=h.ob;omega,h.lc,fun _ f0 f1=>h.rowG f0 f1⟩
theorem bqu {b:Int} {c:ac} (h:CgR b c):CgR b (opR c):=
 ⟨h.b1,h.ob0,h.ob,by have:=h.m;have:=h.lt;show (c.2.2.1.length:Int)<=b;omega,h.lt.symm,h.li,by show (ce c.2.1.length _).length=c.2.2.1.length;rw [c6,h.lt],h.to,h.fr,h.id,
  fun r hr=>by
   change r ∈ ce c.2.1.length _ at hr
   obtain ⟨f,f0,f1,rfl⟩:=n7.1 hr
   refine ⟨by show _=c.2.2.1.length;rw [c6,h.lt],fun x hx=>?_⟩
   obtain ⟨g,g0,g1,rfl⟩:=n7.1 hx
   exact h.cel g0 g1 f0 f1⟩
def ow:Ct:=⟨[bj],[true],fun x=>[SqR x.1],[(true,ku)],fun x=>(opR x.1,()),false,none⟩
def aoj:Ann:=(.s .n (.s .n (.s (.s .n (.l [(2,(.ad 2 [.de])),(3,(.ad 3 [.de])),(4,(.d (.int .i64)))] [(2,(.pt (.p (.fz (.int .i64)) (.p (.sl (.fz (.int .i64))) (.p (.sl (.fz (.int .i64))) (.p (.sl (.fz (.int .i64))) (.sl (.sl (.fz (.int .i64)))))))))),(3,(.pt (.p (.fz (.int .i64)) (.p (.sl (.fz (.int .i64))) (.p (.sl (.fz (.int .i64))) (.p (.sl (.fz (.int .i64))) (.sl (.sl (.fz (.int .i64))))))))))] [1] (.s .n (.s (.s .n (.s (.s .n (.l [(2,(.ad 2 [.de])),(3,(.ad 3 [.de])),(5,(.ref 800005 [])),(6,(.d (.int .i64)))] [(2,(.pt (.p (.fz (.int .i64)) (.p (.sl (.fz (.int .i64))) (.p (.sl (.fz (.int .i64))) (.p (.sl (.fz (.int .i64))) (.sl (.sl (.fz (.int .i64)))))))))),(3,(.pt (.p (.fz (.int .i64)) (.p (.sl (.fz (.int .i64))) (.p (.sl (.fz (.int .i64))) (.p (.sl (.fz (.int .i64))) (.sl (.sl (.fz (.int .i64)))))))))),(800005,(.sl (.fz (.int .i64))))] [1,4] .n)) .n)) .n)))) .n)))
def adz (c:ac) (K:ac×Unit->Prop):Prop:=((c.2.2.1.length<=1099511627776)/\((c.2.1.length<=1099511627776)/\((c.2.2.2.1.length<=1099511627776)/\(bu (S:=(brc×brf)) (fun s=>(fun next=>((inK .i64 s.1.2.2.1)->((inK .i64 s.2.1.1)->((T.ok (.sl (.int .i64)) s.2.1.2.1)->((T.ok (.sl (.int .i64)) s.2.1.2.2.1)->((T.ok (.sl (.int .i64)) s.2.1.2.2.2.1)->((T.ok (.sl (.sl (.int .i64))) s.2.1.2.2.2.2)->((inK .i64 s.2.2.1.1)->((T.ok (.sl (.int .i64)) s.2.2.1.2.1)->((T.ok (.sl (.int .i64)) s.2.2.1.2.2.1)->((T.ok (.sl (.int .i64)) s.2.2.1.2.2.2.1)->((T.ok (.sl (.sl (.int .i64))) s.2.2.1.2.2.2.2)->(cnd (decide (s.1.2.2.1 < ((c.2.1.length:Nat):Int))) (bu (S:=bre) (fun s1=>(fun next1=>((inK .i64 s1.1.2.2.2.1)->((inK .i64 s1.2.1.1)->((T.ok (.sl (.int .i64)) s1.2.1.2.1)->((T.ok (.sl (.int .i64)) s1.2.1.2.2.1)->((T.ok (.sl (.int .i64)) s1.2.1.2.2.2.1)->((T.ok (.sl (.sl (.int .i64))) s1.2.1.2.2.2.2)->((inK .i64 s1.2.2.1.1)->((T.ok (.sl (.int .i64)) s1.2.2.1.2.1)->((T.ok (.sl (.int .i64)) s1.2.2.1.2.2.1)->((T.ok (.sl (.int .i64)) s1.2.2.1.2.2.2.1)->((T.ok (.sl (.sl (.int .i64))) s1.2.2.1.2.2.2.2)->((T.ok (.sl (.int .i64)) s1.2.2.2.1)->(cnd (decide (s1.1.2.2.2.1 < ((c.2.1.length:Nat):Int))) ((0<=s1.1.2.2.2.1)/\((s1.1.2.2.2.1 < ((c.2.2.2.2.length:Nat):Int))/\((0<=s.1.2.2.1)/\((s.1.2.2.1 < (((List.length (List.getD c.2.2.2.2 s1.1.2.2.2.1.toNat [])):Nat):Int))/\((fg s1.2.2.2.1.length (List.length ((List.getD (List.getD c.2.2.2.2 s1.1.2.2.2.1.toNat []) s.1.2.2.1.toNat 0)::[])) 8)/\((inK .i64 (s1.1.2.2.2.1+1))/\(next1 (((),((),((),((s1.1.2.2.2.1+1),())))),(s1.2.1,(s1.2.2.1,((s1.2.2.2.1++((List.getD (List.getD c.2.2.2.2 s1.1.2.2.2.1.toNat []) s.1.2.2.1.toNat 0)::[])),()))))))))))) ((fg s1.2.2.1.2.2.2.2.length (List.length (s1.2.2.2.1::[])) 24)/\((inK .i64 (s.1.2.2.1+1))/\(next (((),((),((s.1.2.2.1+1),()))),(s1.2.1,((s1.2.2.1.1,(s1.2.2.1.2.1,(s1.2.2.1.2.2.1,(s1.2.2.1.2.2.2.1,(s1.2.2.1.2.2.2.2++(s1.2.2.2.1::[])))))),()))))))))))))))))))))) (((),((),((),(0,())))),(s.2.1,(s.2.2.1,([],()))))) (K (s.2.2.1,())))))))))))))))) (((),((),(0,()))),((0,([],([],([],[])))),((c.1,(c.2.2.1,(c.2.1,(c.2.2.2.1,[])))),())))))))
theorem bb8 (x:bi ow.args) (K:ac×Unit->Prop):evF tab (lkp [(59,jr)]) (aw [(1,514)]) Try.f153 (aj Try.f153) aoj ow x K=adz x.1 K:=by kernel_rfl
theorem ba6:okC Try.f153.ntmps (aw [(1,514)]) (aj Try.f153)=true:=by kernel_rfl
theorem bcx (c:ac) (hok:ae (okL ow.args (c,()))) (hpre:ae (ow.pre (c,()))):adz c (fun r=>r=ow.res (c,())):=by
 simp only [ow,okL,T.oks,T.ok,ap,ae,true_and,and_true,implies_true]at hok hpre
 try dsimp only [T.den]at hok
 try dsimp only [T.den]at hpre
 unfold adz
 have S:SqR c:=hpre
 have hlt:=S.lt
 have hlc:=S.lc
 have hmm:=S.m
 have hids:=S.li
 clear hok
 generalize hn:c.2.1.length=n at *
 refine ⟨by omega,by omega,by omega,?_⟩
 refine ca (fun (s:(brc×brf))=>0<=s.1.2.2.1/\s.1.2.2.1<=n/\s.2.2.1=(c.1,c.2.2.1,c.2.1,c.2.2.2.1,ce s.1.2.2.1.toNat fun f=>ce n fun g=>cq c g f)) (fun (s:(brc×brf))=>(n - s.1.2.2.1).toNat) ?_ ⟨by simp,by simp,rfl⟩
 rintro ⟨⟨_,_,f,_⟩,o1,out,_⟩ next ⟨f0,f1,hq⟩ hnx _ _ _ _ _ _ _ _ _ _ _
 try dsimp only at f0 f1 hq hnx ⊢
 refine bf (fun hf=>?_) (fun hf=>?_)
 ·refine ca (fun (s1:bre)=>0<=s1.1.2.2.2.1/\s1.1.2.2.2.1<=n/\s1.2.2.1=out/\s1.2.2.2.1=ce s1.1.2.2.2.1.toNat fun g=>cq c g f) (fun (s1:bre)=>(n - s1.1.2.2.2.1).toNat) ?_ ⟨by simp,by simp,rfl,rfl⟩
  rintro ⟨⟨_,_,_,g,_⟩,p1,out2,row,_⟩ next1 ⟨g0,g1,h1,h2⟩ hn1 _ _ _ _ _ _ _ _ _ _ _ _
  try dsimp only at g0 g1 h1 h2 hn1 ⊢
  subst h1;subst h2
  refine bf (fun hg=>?_) (fun hg=>?_)
  ·have hr:=S.row g g0 (by omega)
   refine ⟨g0,by omega,f0,by omega,cw (by rw [c6];simp only [List.length_cons,List.length_nil];omega),by rw [au];(try dsimp only);omega,hn1 _ ⟨(by first | omega | (dsimp only;omega)),(by first | omega | (dsimp only;omega)),rfl,?_⟩ (by first | omega | (dsimp only;omega))⟩
   try dsimp only;rw [yc g0];rfl
  ·have e:g=n:=by omega
   subst hq
   refine ⟨cw (by rw [c6];simp only [List.length_cons,List.length_nil];omega),by rw [au];(try dsimp only);omega,hnx _ ⟨(by first | omega | (dsimp only;omega)),(by first | omega | (dsimp only;omega)),?_⟩ (by first | omega | (dsimp only;omega))⟩
   try dsimp only;rw [yc f0,e,Int.toNat_natCast]
 ·have e:f=n:=by omega
  simp only [ow,opR,hn]
  rw [hq,e,Int.toNat_natCast]
theorem aoh:dg Try.prog 153 ow:=
 d7 (Φ:=lkp [(59,jr)]) (am xh ba) bo (by kernel_rfl) (fn:=Try.f153) (c:=aj Try.f153) (by kernel_rfl) (by kernel_rfl) (by kernel_rfl) ow rfl aoj (aw [(1,514)]) (by kernel_rfl) (by kernel_rfl) ba6 (by decide) (fun x K=>adz x.1 K) bb8 (fun x h1 h2=>bcx x.1 h1 h2)
structure PoC (n b:Int) (c:ac):Prop where
 ob:c.1=n
 lt:c.2.2.1.length=c.2.1.length
 m:(c.2.1.length:Int)<=b
 fr:∀ x ∈ c.2.1,0<=x/\x < n
 to:∀ x ∈ c.2.2.1,0<=x/\x < n
theorem PoC.le {n a b:Int} {c:ac} (h:PoC n a c) (hb:a<=b):PoC n b c:=⟨h.ob,h.lt,by have:=h.m;omega,h.fr,h.to⟩
structure NumL (k b:Int) (w:List Int):Prop where
 l:(w.length:Int)=k
 e:∀ x ∈ w,-b<=x/\x<=64
theorem NumL.push {k b x:Int} {l:List Int} (h:NumL k b l) (h0:-b<=x) (h1:x<=64):NumL (k+1) b (l++[x]):=
 ⟨by rw [List.length_append];have:=h.l;simp only [List.length_cons,List.length_nil];omega,fun y hy=>by
  rcases List.mem_append.1 hy with hy | hy
  ·exact h.e y hy
  ·rw [List.mem_singleton.1 hy];exact ⟨h0,h1⟩⟩
theorem NumL.at {k b i:Int} {l:List Int} (h:NumL k b l) (h0:0<=i) (h1:i < k):-b<=l.getD i.toNat 0/\l.getD i.toNat 0<=64:=h.e _ (gf l 0 h0 (by have:=h.l;omega))
structure NumT (k n b:Int) (t:List (List Int)):Prop where
 l:(t.length:Int)=k
 e:∀ r ∈ t,NumL n b r
theorem NumT.push {k n b:Int} {t:List (List Int)} {r:List Int} (h:NumT k n b t) (hr:NumL n b r):NumT (k+1) n b (t++[r]):=
 ⟨by rw [List.length_append];have:=h.l;simp only [List.length_cons,List.length_nil];omega,fun y hy=>by
  rcases List.mem_append.1 hy with hy | hy
  ·exact h.e y hy
  ·rw [List.mem_singleton.1 hy];exact hr⟩
theorem NumT.at {k n b i:Int} {t:List (List Int)} (h:NumT k n b t) (h0:0<=i) (h1:i < k):NumL n b (t.getD i.toNat []):=h.e _ (gf t [] h0 (by have:=h.l;omega))
def iw:Ct:=⟨[(.sl (.sl (.int .i64)))],[false],fun x=>[RowP x.1.length x.1,x.1.length<=8],[(true,ku)],fun _=>dfR _,false,none⟩
def vk (rel:List (List Int)) (r0:ac):Prop:=CgR 64 r0/\r0.1=(rel.length:Int)/\(r0.2.1.length:Int)<=8 * rel.length
def yj:Ann:=(.s .n (.s .n (.s .n (.s .n (.s (.s .n (.l [(2,(.ad 2 [.de])),(4,(.ref 800004 [])),(5,(.ad 5 [.de])),(6,(.d (.int .i64)))] [(2,(.pt (.p (.fz (.int .i64)) (.p (.sl (.fz (.int .i64))) (.p (.sl (.fz (.int .i64))) (.p (.sl (.fz (.int .i64))) (.sl (.sl (.fz (.int .i64)))))))))),(800004,(.sl (.sl (.fz (.int .i64))))),(5,(.pt (.p (.fz (.int .i64)) (.p (.sl (.fz (.int .i64))) (.p (.sl (.fz (.int .i64))) (.p (.sl (.fz (.int .i64))) (.sl (.sl (.fz (.int .i64))))))))))] [0,3] (.s .n (.s (.s .n (.s (.s .n (.l [(2,(.ad 2 [.de])),(4,(.ref 800004 [])),(5,(.ad 5 [.de])),(7,(.ref 800007 [])),(8,(.d (.int .i64)))] [(2,(.pt (.p (.fz (.int .i64)) (.p (.sl (.fz (.int .i64))) (.p (.sl (.fz (.int .i64))) (.p (.sl (.fz (.int .i64))) (.sl (.sl (.fz (.int .i64)))))))))),(800004,(.sl (.sl (.fz (.int .i64))))),(5,(.pt (.p (.fz (.int .i64)) (.p (.sl (.fz (.int .i64))) (.p (.sl (.fz (.int .i64))) (.p (.sl (.fz (.int .i64))) (.sl (.sl (.fz (.int .i64)))))))))),(800007,(.sl (.fz (.int .i64))))] [0,3,6] (.s .n (.s (.s .n (.s .n (.j [(2,(.ad 2 [.de])),(4,(.ref 800004 [])),(5,(.ad 5 [.de])),(7,(.ref 800007 []))] [(2,(.pt (.p (.fz (.int .i64)) (.p (.sl (.fz (.int .i64))) (.p (.sl (.fz (.int .i64))) (.p (.sl (.fz (.int .i64))) (.sl (.sl (.fz (.int .i64)))))))))),(800004,(.sl (.sl (.fz (.int .i64))))),(5,(.pt (.p (.fz (.int .i64)) (.p (.sl (.fz (.int .i64))) (.p (.sl (.fz (.int .i64))) (.p (.sl (.fz (.int .i64))) (.sl (.sl (.fz (.int .i64)))))))))),(800007,(.sl (.fz (.int .i64))))] [0,3,6,8] .n))) .n)))) .n)) .n)))) (.s (.s .n (.l [(2,(.ad 2 [.de])),(5,(.ad 5 [.de])),(9,(.d (.int .i64)))] [(2,(.pt (.p (.fz (.int .i64)) (.p (.sl (.fz (.int .i64))) (.p (.sl (.fz (.int .i64))) (.p (.sl (.fz (.int .i64))) (.sl (.sl (.fz (.int .i64)))))))))),(5,(.pt (.p (.fz (.int .i64)) (.p (.sl (.fz (.int .i64))) (.p (.sl (.fz (.int .i64))) (.p (.sl (.fz (.int .i64))) (.sl (.sl (.fz (.int .i64))))))))))] [3,4] .n)) (.s (.s .n (.l [(2,(.ad 2 [.de])),(5,(.ad 5 [.de])),(10,(.d (.int .i64)))] [(2,(.pt (.p (.fz (.int .i64)) (.p (.sl (.fz (.int .i64))) (.p (.sl (.fz (.int .i64))) (.p (.sl (.fz (.int .i64))) (.sl (.sl (.fz (.int .i64)))))))))),(5,(.pt (.p (.fz (.int .i64)) (.p (.sl (.fz (.int .i64))) (.p (.sl (.fz (.int .i64))) (.p (.sl (.fz (.int .i64))) (.sl (.sl (.fz (.int .i64))))))))))] [4] (.s .n (.s (.s .n (.s (.s .n (.l [(2,(.ad 2 [.de])),(5,(.ad 5 [.de])),(11,(.ref 800011 [])),(12,(.d (.int .i64)))] [(2,(.pt (.p (.fz (.int .i64)) (.p (.sl (.fz (.int .i64))) (.p (.sl (.fz (.int .i64))) (.p (.sl (.fz (.int .i64))) (.sl (.sl (.fz (.int .i64)))))))))),(5,(.pt (.p (.fz (.int .i64)) (.p (.sl (.fz (.int .i64))) (.p (.sl (.fz (.int .i64))) (.p (.sl (.fz (.int .i64))) (.sl (.sl (.fz (.int .i64)))))))))),(800011,(.sl (.fz (.int .i64))))] [4,10] (.s .n (.s (.s .n (.s (.s .n (.j [(2,(.ad 2 [.de])),(5,(.ad 5 [.de])),(11,(.ref 800011 [])),(13,(.d (.int .i64)))] [(2,(.pt (.p (.fz (.int .i64)) (.p (.sl (.fz (.int .i64))) (.p (.sl (.fz (.int .i64))) (.p (.sl (.fz (.int .i64))) (.sl (.sl (.fz (.int .i64)))))))))),(5,(.pt (.p (.fz (.int .i64)) (.p (.sl (.fz (.int .i64))) (.p (.sl (.fz (.int .i64))) (.p (.sl (.fz (.int .i64))) (.sl (.sl (.fz (.int .i64)))))))))),(800011,(.sl (.fz (.int .i64))))] [4,10,12] .n)) .n)) .n)))) .n)) .n)))) .n)))))))
def py (rel:List (List Int)) (K:ac×Unit->Prop):Prop:=(bu (S:=br1) (fun s=>(fun next=>((inK .i64 s.1.2.2.2.1)->((inK .i64 s.2.1.1)->((T.ok (.sl (.int .i64)) s.2.1.2.1)->((T.ok (.sl (.int .i64)) s.2.1.2.2.1)->((T.ok (.sl (.int .i64)) s.2.1.2.2.2.1)->((T.ok (.sl (.sl (.int .i64))) s.2.1.2.2.2.2)->((T.ok (.sl (.sl (.int .i64))) s.2.2.1)->((inK .i64 s.2.2.2.1.1)->((T.ok (.sl (.int .i64)) s.2.2.2.1.2.1)->((T.ok (.sl (.int .i64)) s.2.2.2.1.2.2.1)->((T.ok (.sl (.int .i64)) s.2.2.2.1.2.2.2.1)->((T.ok (.sl (.sl (.int .i64))) s.2.2.2.1.2.2.2.2)->(cnd (decide (s.1.2.2.2.1 < ((rel.length:Nat):Int))) (bu (S:=(brv×br0)) (fun s1=>(fun next1=>((inK .i64 s1.1.2.2.2.2.1)->((inK .i64 s1.2.1.1)->((T.ok (.sl (.int .i64)) s1.2.1.2.1)->((T.ok (.sl (.int .i64)) s1.2.1.2.2.1)->((T.ok (.sl (.int .i64)) s1.2.1.2.2.2.1)->((T.ok (.sl (.sl (.int .i64))) s1.2.1.2.2.2.2)->((T.ok (.sl (.sl (.int .i64))) s1.2.2.1)->((inK .i64 s1.2.2.2.1.1)->((T.ok (.sl (.int .i64)) s1.2.2.2.1.2.1)->((T.ok (.sl (.int .i64)) s1.2.2.2.1.2.2.1)->((T.ok (.sl (.int .i64)) s1.2.2.2.1.2.2.2.1)->((T.ok (.sl (.sl (.int .i64))) s1.2.2.2.1.2.2.2.2)->((T.ok (.sl (.int .i64)) s1.2.2.2.2.1)->(cnd (decide (s1.1.2.2.2.2.1 < ((rel.length:Nat):Int))) ((fg s1.2.2.2.2.1.length (List.length (((s1.2.2.2.1.2.1.length:Nat):Int)::[])) 8)/\((0<=s.1.2.2.2.1)/\((s.1.2.2.2.1 < ((rel.length:Nat):Int))/\((0<=s1.1.2.2.2.2.1)/\((s1.1.2.2.2.2.1 < (((List.length (List.getD rel s.1.2.2.2.1.toNat [])):Nat):Int))/\(fk (S:=((Unit×(Unit×brp))×br0)) (fun s2=>((inK .i64 s2.2.1.1)->((T.ok (.sl (.int .i64)) s2.2.1.2.1)->((T.ok (.sl (.int .i64)) s2.2.1.2.2.1)->((T.ok (.sl (.int .i64)) s2.2.1.2.2.2.1)->((T.ok (.sl (.sl (.int .i64))) s2.2.1.2.2.2.2)->((T.ok (.sl (.sl (.int .i64))) s2.2.2.1)->((inK .i64 s2.2.2.2.1.1)->((T.ok (.sl (.int .i64)) s2.2.2.2.1.2.1)->((T.ok (.sl (.int .i64)) s2.2.2.2.1.2.2.1)->((T.ok (.sl (.int .i64)) s2.2.2.2.1.2.2.2.1)->((T.ok (.sl (.sl (.int .i64))) s2.2.2.2.1.2.2.2.2)->((T.ok (.sl (.int .i64)) s2.2.2.2.2.1)->((inK .i64 (s1.1.2.2.2.2.1+1))/\(next1 (((),((),((),((),((s1.1.2.2.2.2.1+1),()))))),(s2.2.1,(s2.2.2.1,(s2.2.2.2.1,(s2.2.2.2.2.1,())))))))))))))))))))) (fun k=>(cnd ((List.getD (List.getD rel s.1.2.2.2.1.toNat []) s1.1.2.2.2.2.1.toNat 0) == 1) ((fg s1.2.2.2.1.2.1.length (List.length (s.1.2.2.2.1::[])) 8)/\((fg s1.2.2.2.1.2.2.1.length (List.length (s1.1.2.2.2.2.1::[])) 8)/\(k (((),((),((),((),())))),(s1.2.1,(s1.2.2.1,((s1.2.2.2.1.1,((s1.2.2.2.1.2.1++(s.1.2.2.2.1::[])),((s1.2.2.2.1.2.2.1++(s1.1.2.2.2.2.1::[])),s1.2.2.2.1.2.2.2))),((s1.2.2.2.2.1++(((s1.2.2.2.1.2.1.length:Nat):Int)::[])),())))))))) (k (((),((),((),((),())))),(s1.2.1,(s1.2.2.1,(s1.2.2.2.1,((s1.2.2.2.2.1++(((s1.2.2.2.1.2.1.length:Nat):Int)::[])),())))))))))))))) ((fg s1.2.2.1.length (List.length (s1.2.2.2.2.1::[])) 24)/\((inK .i64 (s.1.2.2.2.1+1))/\(next (((),((),((),((s.1.2.2.2.1+1),())))),(s1.2.1,((s1.2.2.1++(s1.2.2.2.2.1::[])),(s1.2.2.2.1,()))))))))))))))))))))))) (((),((),((),((),(0,()))))),(s.2.1,(s.2.2.1,(s.2.2.2.1,([],())))))) (bu (S:=(brc×brf)) (fun s1=>(fun next1=>((inK .i64 s1.1.2.2.1)->((inK .i64 s1.2.1.1)->((T.ok (.sl (.int .i64)) s1.2.1.2.1)->((T.ok (.sl (.int .i64)) s1.2.1.2.2.1)->((T.ok (.sl (.int .i64)) s1.2.1.2.2.2.1)->((T.ok (.sl (.sl (.int .i64))) s1.2.1.2.2.2.2)->((inK .i64 s1.2.2.1.1)->((T.ok (.sl (.int .i64)) s1.2.2.1.2.1)->((T.ok (.sl (.int .i64)) s1.2.2.1.2.2.1)->((T.ok (.sl (.int .i64)) s1.2.2.1.2.2.2.1)->((T.ok (.sl (.sl (.int .i64))) s1.2.2.1.2.2.2.2)->(cnd (decide (s1.1.2.2.1 < ((rel.length:Nat):Int))) ((0<=s1.1.2.2.1)/\((s1.1.2.2.1 < ((s.2.2.1.length:Nat):Int))/\((0<=s1.1.2.2.1)/\((s1.1.2.2.1 < (((List.length (List.getD s.2.2.1 s1.1.2.2.1.toNat [])):Nat):Int))/\((fg s1.2.2.1.2.2.2.1.length (List.length ((List.getD (List.getD s.2.2.1 s1.1.2.2.1.toNat []) s1.1.2.2.1.toNat 0)::[])) 8)/\((inK .i64 (s1.1.2.2.1+1))/\(next1 (((),((),((s1.1.2.2.1+1),()))),(s1.2.1,((s1.2.2.1.1,(s1.2.2.1.2.1,(s1.2.2.1.2.2.1,((s1.2.2.1.2.2.2.1++((List.getD (List.getD s.2.2.1 s1.1.2.2.1.toNat []) s1.1.2.2.1.toNat 0)::[])),s1.2.2.1.2.2.2.2)))),())))))))))) (bu (S:=(brc×brf)) (fun s2=>(fun next2=>((inK .i64 s2.1.2.2.1)->((inK .i64 s2.2.1.1)->((T.ok (.sl (.int .i64)) s2.2.1.2.1)->((T.ok (.sl (.int .i64)) s2.2.1.2.2.1)->((T.ok (.sl (.int .i64)) s2.2.1.2.2.2.1)->((T.ok (.sl (.sl (.int .i64))) s2.2.1.2.2.2.2)->((inK .i64 s2.2.2.1.1)->((T.ok (.sl (.int .i64)) s2.2.2.1.2.1)->((T.ok (.sl (.int .i64)) s2.2.2.1.2.2.1)->((T.ok (.sl (.int .i64)) s2.2.2.1.2.2.2.1)->((T.ok (.sl (.sl (.int .i64))) s2.2.2.1.2.2.2.2)->(cnd (decide (s2.1.2.2.1 < ((s2.2.2.1.2.1.length:Nat):Int))) (bu (S:=bre) (fun s3=>(fun next3=>((inK .i64 s3.1.2.2.2.1)->((inK .i64 s3.2.1.1)->((T.ok (.sl (.int .i64)) s3.2.1.2.1)->((T.ok (.sl (.int .i64)) s3.2.1.2.2.1)->((T.ok (.sl (.int .i64)) s3.2.1.2.2.2.1)->((T.ok (.sl (.sl (.int .i64))) s3.2.1.2.2.2.2)->((inK .i64 s3.2.2.1.1)->((T.ok (.sl (.int .i64)) s3.2.2.1.2.1)->((T.ok (.sl (.int .i64)) s3.2.2.1.2.2.1)->((T.ok (.sl (.int .i64)) s3.2.2.1.2.2.2.1)->((T.ok (.sl (.sl (.int .i64))) s3.2.2.1.2.2.2.2)->((T.ok (.sl (.int .i64)) s3.2.2.2.1)->(cnd (decide (s3.1.2.2.2.1 < ((s3.2.2.1.2.1.length:Nat):Int))) ((0<=s2.1.2.2.1)/\((s2.1.2.2.1 < ((s3.2.2.1.2.2.1.length:Nat):Int))/\((0<=s3.1.2.2.2.1)/\((s3.1.2.2.2.1 < ((s3.2.2.1.2.1.length:Nat):Int))/\(fk (S:=bre) (fun s4=>((inK .i64 s4.1.2.2.2.1)->((inK .i64 s4.2.1.1)->((T.ok (.sl (.int .i64)) s4.2.1.2.1)->((T.ok (.sl (.int .i64)) s4.2.1.2.2.1)->((T.ok (.sl (.int .i64)) s4.2.1.2.2.2.1)->((T.ok (.sl (.sl (.int .i64))) s4.2.1.2.2.2.2)->((inK .i64 s4.2.2.1.1)->((T.ok (.sl (.int .i64)) s4.2.2.1.2.1)->((T.ok (.sl (.int .i64)) s4.2.2.1.2.2.1)->((T.ok (.sl (.int .i64)) s4.2.2.1.2.2.2.1)->((T.ok (.sl (.sl (.int .i64))) s4.2.2.1.2.2.2.2)->((T.ok (.sl (.int .i64)) s4.2.2.2.1)->((fg s4.2.2.2.1.length (List.length (s4.1.2.2.2.1::[])) 8)/\((inK .i64 (s3.1.2.2.2.1+1))/\(next3 (((),((),((),((s3.1.2.2.2.1+1),())))),(s4.2.1,(s4.2.2.1,((s4.2.2.2.1++(s4.1.2.2.2.1::[])),())))))))))))))))))))) (fun k=>(cnd ((List.getD s3.2.2.1.2.2.1 s2.1.2.2.1.toNat 0) == (List.getD s3.2.2.1.2.1 s3.1.2.2.2.1.toNat 0)) ((0<=s2.1.2.2.1)/\((s2.1.2.2.1 < ((s3.2.2.1.2.1.length:Nat):Int))/\((0<=(List.getD s3.2.2.1.2.1 s2.1.2.2.1.toNat 0))/\(((List.getD s3.2.2.1.2.1 s2.1.2.2.1.toNat 0) < ((s.2.2.1.length:Nat):Int))/\((0<=s3.1.2.2.2.1)/\((s3.1.2.2.2.1 < ((s3.2.2.1.2.2.1.length:Nat):Int))/\((0<=(List.getD s3.2.2.1.2.2.1 s3.1.2.2.2.1.toNat 0))/\(((List.getD s3.2.2.1.2.2.1 s3.1.2.2.2.1.toNat 0) < (((List.length (List.getD s.2.2.1 (Int.toNat (List.getD s3.2.2.1.2.1 s2.1.2.2.1.toNat 0)) [])):Nat):Int))/\(k (((),((),((),((List.getD (List.getD s.2.2.1 (Int.toNat (List.getD s3.2.2.1.2.1 s2.1.2.2.1.toNat 0)) []) (Int.toNat (List.getD s3.2.2.1.2.2.1 s3.1.2.2.2.1.toNat 0)) 0),())))),(s3.2.1,(s3.2.2.1,(s3.2.2.2.1,()))))))))))))) (k (((),((),((),((-1),())))),(s3.2.1,(s3.2.2.1,(s3.2.2.2.1,())))))))))))) ((fg s3.2.2.1.2.2.2.2.length (List.length (s3.2.2.2.1::[])) 24)/\((inK .i64 (s2.1.2.2.1+1))/\(next2 (((),((),((s2.1.2.2.1+1),()))),(s3.2.1,((s3.2.2.1.1,(s3.2.2.1.2.1,(s3.2.2.1.2.2.1,(s3.2.2.1.2.2.2.1,(s3.2.2.1.2.2.2.2++(s3.2.2.2.1::[])))))),()))))))))))))))))))))) (((),((),((),(0,())))),(s2.2.1,(s2.2.2.1,([],()))))) (K (s2.2.2.1,())))))))))))))))) (((),((),(0,()))),(s1.2.1,(s1.2.2.1,())))))))))))))))))) (((),((),(0,()))),(s.2.1,(s.2.2.2.1,()))))))))))))))))))) (((),((),((),(0,())))),((0,([],([],([],[])))),([],((((rel.length:Nat):Int),([],([],([],[])))),())))))
theorem avp (x:bi iw.args) (K:ac×Unit->Prop):evF tab (lkp []) (aw [(19,510),(28,10),(29,13)]) Try.f140 (aj Try.f140) yj iw x K=py x.1 K:=by kernel_rfl
theorem ajs:okC Try.f140.ntmps (aw [(19,510),(28,10),(29,13)]) (aj Try.f140)=true:=by kernel_rfl
theorem at2 (rel:List (List Int)) (hok:ae (okL iw.args (rel,()))) (hpre:ae (iw.pre (rel,()))):py rel (fun r=>vk rel r.1):=by
 simp only [iw,okL,T.oks,T.ok,ap,ae,true_and,and_true,implies_true]at hok hpre
 try dsimp only [T.den]at hok
 try dsimp only [T.den]at hpre
 unfold py vk
 obtain ⟨hR,h8⟩:=hpre
 clear hok
 generalize hn:rel.length=n0 at *
 obtain ⟨n,hnn⟩:∃ n:Int,n=(n0:Int):=⟨_,rfl⟩
 rw [← hnn]at hR ⊢
 have n0':0<=n:=by omega
 have n8:n<=8:=by omega
 have rl:(rel.length:Int)=n:=by omega
 refine ca (fun (s:br1)=>0<=s.1.2.2.2.1/\s.1.2.2.2.1<=n/\NumT s.1.2.2.2.1 n 0 s.2.2.1/\PoC n (8 * s.1.2.2.2.1) s.2.2.2.1/\s.2.2.2.1.2.2.2=([],[])) (fun (s:br1)=>(n - s.1.2.2.2.1).toNat) ?_ ⟨by simp,by simpa using n0',⟨rfl,by simp⟩,⟨rfl,rfl,by simp,by simp,by simp⟩,rfl⟩
 rintro ⟨⟨_,_,_,i,_⟩,o1,num,c,_⟩ next ⟨i0,i1,hN,hP,hz⟩ hnx
 intros
 try dsimp only at i0 i1 hN hP hz hnx ⊢
 refine bf (fun hi=>?_) (fun hi=>?_)
 ·refine ca (fun (s:(brv×br0))=>0<=s.1.2.2.2.2.1/\s.1.2.2.2.2.1<=n/\s.2.2.1=num/\PoC n (8 * i+s.1.2.2.2.2.1) s.2.2.2.1/\s.2.2.2.1.2.2.2=([],[])/\NumL s.1.2.2.2.2.1 0 s.2.2.2.2.1) (fun (s:(brv×br0))=>(n - s.1.2.2.2.2.1).toNat) ?_ ⟨by simp,by simpa using n0',rfl,hP.le (by (try dsimp only);omega),hz,⟨rfl,by simp⟩⟩
  rintro ⟨⟨_,_,_,_,j,_⟩,o2,num2,c2,row,_⟩ next2 ⟨j0,j1,q1,hP2,hz2,hL⟩ hn2
  intros
  try dsimp only at j0 j1 q1 hP2 hz2 hL hn2 ⊢
  subst q1
  have m2:=hP2.m
  have l2:=hP2.lt
  have ll:=hL.l
  refine bf (fun hj=>?_) (fun hj=>?_)
  ·have hr:=hR.row (i:=i) i0 (by omega)
   refine ⟨cw (by simp only [List.length_cons,List.length_nil];omega),i0,by omega,j0,by omega,dn (fun (q:((Unit×(Unit×brp))×br0))=>q.2.2.1=num2/\PoC n (8 * i+(j+1)) q.2.2.2.1/\q.2.2.2.1.2.2.2=([],[])/\NumL (j+1) 0 q.2.2.2.2.1) ?_ (fun k hk=>be (fun _=>⟨cw (by simp only [List.length_cons,List.length_nil];omega),cw (by simp only [List.length_cons,List.length_nil];omega),hk _ ⟨rfl,⟨hP2.ob,?_,?_,?_,?_⟩,hz2,hL.push (by omega) (by omega)⟩⟩) (fun _=>hk _ ⟨rfl,hP2.le (by omega),hz2,hL.push (by omega) (by omega)⟩))⟩
   ·rintro ⟨_,o3,num3,c3,row3,_⟩ ⟨q1,q2,q3,q4⟩
    intros
    try dsimp only at q1 q2 q3 q4 ⊢
    exact ⟨by rw [au];(try dsimp only);omega,hn2 _ ⟨by dsimp only;omega,by dsimp only;omega,q1,q2,q3,q4⟩ (by first | omega | (dsimp only;omega))⟩
   ·try dsimp only;simp only [List.length_append,List.length_cons,List.length_nil];omega
   ·try dsimp only;simp only [List.length_append,List.length_cons,List.length_nil];omega
   ·try dsimp only;intro x hx
    rcases List.mem_append.1 hx with hx | hx
    ·exact hP2.fr x hx
    ·rw [List.mem_singleton.1 hx];omega
   ·try dsimp only;intro x hx
    rcases List.mem_append.1 hx with hx | hx
    ·exact hP2.to x hx
    ·rw [List.mem_singleton.1 hx];omega
  ·have e:j=n:=by omega
   rw [e]at hL hP2
   have:=hN.l
   exact ⟨cw (by simp only [List.length_cons,List.length_nil];omega),by rw [au];(try dsimp only);omega,hnx _ ⟨by dsimp only;omega,by dsimp only;omega,hN.push hL,hP2.le (by dsimp only;omega),hz2⟩ (by first | omega | (dsimp only;omega))⟩
 have ei:i=n:=by omega
 rw [ei]at hN hP
 replace hP:=hP.le (b:=8 * n) (by omega)
 have nl:=hN.l
 refine ca (fun (s:(brc×brf))=>0<=s.1.2.2.1/\s.1.2.2.1<=n/\PoC n (8 * n) s.2.2.1/\s.2.2.1.2.2.2.2=[]/\NumL s.1.2.2.1 0 s.2.2.1.2.2.2.1) (fun (s:(brc×brf))=>(n - s.1.2.2.1).toNat) ?_ ⟨by simp,by simpa using n0',hP,by dsimp only;rw [hz],by dsimp only;rw [hz];exact ⟨rfl,by simp⟩⟩
 rintro ⟨⟨_,_,y,_⟩,o2,c2,_⟩ next1 ⟨y0,y1,hP2,hz2,hL⟩ hn1
 intros
 try dsimp only at y0 y1 hP2 hz2 hL hn1 ⊢
 have ll:=hL.l
 refine bf (fun hy=>?_) (fun hy=>?_)
 ·have hr:=hN.at y0 (by omega)
  have hrl:=hr.l
  have hv:=hr.at y0 (by omega)
  exact ⟨y0,by omega,y0,by omega,cw (by simp only [List.length_cons,List.length_nil];omega),by rw [au];(try dsimp only);omega,hn1 _ ⟨by dsimp only;omega,by dsimp only;omega,⟨hP2.ob,hP2.lt,hP2.m,hP2.fr,hP2.to⟩,hz2,hL.push hv.1 hv.2⟩ (by first | omega | (dsimp only;omega))⟩
 have ey:y=n:=by omega
 rw [ey]at hL
 have m2:=hP2.m
 have l2:=hP2.lt
 refine ca (fun (s:(brc×brf))=>0<=s.1.2.2.1/\s.1.2.2.1<=c2.2.1.length/\s.2.2.1.1=c2.1/\s.2.2.1.2.1=c2.2.1/\s.2.2.1.2.2.1=c2.2.2.1/\s.2.2.1.2.2.2.1=c2.2.2.2.1/\NumT s.1.2.2.1 c2.2.1.length 64 s.2.2.1.2.2.2.2) (fun (s:(brc×brf))=>(c2.2.1.length - s.1.2.2.1).toNat) ?_ ⟨by simp,by simp,rfl,rfl,rfl,rfl,by dsimp only;rw [hz2];exact ⟨rfl,by simp⟩⟩
 rintro ⟨⟨_,_,f,_⟩,o3,⟨c31,c32,c33,c34,c35⟩,_⟩ next2 ⟨f0,f1,q1,q2,q3,q4,hT⟩ hn2
 intros
 try dsimp only at f0 f1 q1 q2 q3 q4 hT hn2 ⊢
 subst q1;subst q2;subst q3;subst q4
 have tl:=hT.l
 refine bf (fun hf=>?_) (fun hf=>?_)
 ·refine ca (fun (s:bre)=>0<=s.1.2.2.2.1/\s.1.2.2.2.1<=c2.2.1.length/\s.2.2.1=(c2.1,c2.2.1,c2.2.2.1,c2.2.2.2.1,c35)/\NumL s.1.2.2.2.1 64 s.2.2.2.1) (fun (s:bre)=>(c2.2.1.length - s.1.2.2.2.1).toNat) ?_ ⟨by simp,by simp,rfl,⟨rfl,by simp⟩⟩
  rintro ⟨⟨_,_,_,g,_⟩,o4,c4,row,_⟩ next3 ⟨g0,g1,q1,hL3⟩ hn3
  intros
  try dsimp only at g0 g1 q1 hL3 hn3 ⊢
  subst q1
  try dsimp only
  have ll3:=hL3.l
  refine bf (fun hg=>?_) (fun hg=>?_)
  ·have a1:=hP2.fr _ (gf c2.2.1 0 f0 hf)
   have a2:=hP2.to _ (gf c2.2.2.1 0 g0 (by omega))
   have hr:=hN.at a1.1 a1.2
   have hrl:=hr.l
   have hv:=hr.at a2.1 a2.2
   refine ⟨f0,by omega,g0,hg,dn (fun (q:bre)=>-64<=q.1.2.2.2.1/\q.1.2.2.2.1<=64/\q.2.2.1=(c2.1,c2.2.1,c2.2.2.1,c2.2.2.2.1,c35)/\q.2.2.2.1=row) ?_ (fun k hk=>be (fun _=>⟨f0,hf,a1.1,by omega,g0,by omega,a2.1,by omega,hk _ ⟨by dsimp only;omega,by dsimp only;omega,rfl,rfl⟩⟩) (fun _=>hk _ ⟨by dsimp only;omega,by dsimp only;omega,rfl,rfl⟩))⟩
   rintro ⟨⟨_,_,_,h,_⟩,o5,c5,row5,_⟩ ⟨q1,q2,q3,q4⟩
   intros
   try dsimp only at q1 q2 q3 q4 ⊢
   subst q3;subst q4
   exact ⟨cw (by simp only [List.length_cons,List.length_nil];omega),by rw [au];(try dsimp only);omega,hn3 _ ⟨by dsimp only;omega,by dsimp only;omega,rfl,hL3.push q1 q2⟩ (by first | omega | (dsimp only;omega))⟩
  ·have e:g=c2.2.1.length:=by omega
   rw [e]at hL3
   exact ⟨cw (by simp only [List.length_cons,List.length_nil];omega),by rw [au];(try dsimp only);omega,hn2 _ ⟨by dsimp only;omega,by dsimp only;omega,rfl,rfl,rfl,rfl,hT.push hL3⟩ (by first | omega | (dsimp only;omega))⟩
 have ef:f=c2.2.1.length:=by omega
 rw [ef]at hT
 have hob:=hP2.ob
 have tl:=hT.l
 have ll:=hL.l
 refine ⟨⟨by omega,by (try dsimp only);omega,by (try dsimp only);omega,by (try dsimp only);omega,l2,by (try dsimp only);omega,by (try dsimp only);omega,fun x hx=>by have:=hP2.fr x hx;omega,fun x hx=>by have:=hP2.to x hx;omega,fun x hx=>by have:=hL.e x hx;omega,fun r hr=>?_⟩,by (try dsimp only);omega,by (try dsimp only);omega⟩
 have h:=hT.e r hr
 exact ⟨by have:=h.l;(try dsimp only);omega,h.e⟩
theorem ad3 (rel:List (List Int)):∃ q:ac×Unit,ae (okL iw.args (rel,()))->ae (iw.pre (rel,()))->py rel (fun r=>r=q)/\ae (okR iw.rt q)/\vk rel q.1:=
 abv (f:=140) (Φ:=lkp []) ba bo (by kernel_rfl) (fn:=Try.f140) (c:=aj Try.f140) (by kernel_rfl) (by kernel_rfl) (by kernel_rfl) iw yj (aw [(19,510),(28,10),(29,13)]) (ot (by kernel_rfl)) (by kernel_rfl) (by kernel_rfl) ajs (by decide) (by kernel_rfl) (fun x K=>py x.1 K) avp (fun x r=>vk x.1 r.1) (fun x h1 h2=>at2 x.1 h1 h2) (rel,())
def dh (rel:List (List Int)):ac:=(ad3 rel).choose.1
theorem aum (rel:List (List Int)) (hok:ae (okL iw.args (rel,()))) (hpre:ae (iw.pre (rel,()))):ae (okR iw.rt (dh rel,()))/\vk rel (dh rel):=((ad3 rel).choose_spec hok hpre).2
def si:Ct:=⟨[(.sl (.sl (.int .i64)))],[false],fun x=>[RowP x.1.length x.1,x.1.length<=8],[(true,ku)],fun x=>((dh x.1),()),false,none⟩
theorem atu (x:bi si.args) (K:ac×Unit->Prop):evF tab (lkp []) (aw [(19,510),(28,10),(29,13)]) Try.f140 (aj Try.f140) yj si x K=py x.1 K:=by kernel_rfl
theorem yi:dg Try.prog 140 si:=
 d7 (Φ:=lkp []) ba bo (by kernel_rfl) (fn:=Try.f140) (c:=aj Try.f140) (by kernel_rfl) (by kernel_rfl) (by kernel_rfl) si rfl yj (aw [(19,510),(28,10),(29,13)]) (by kernel_rfl) (by kernel_rfl) ajs (by decide) (fun x K=>py x.1 K) atu (fun x h1 h2=>((ad3 x.1).choose_spec h1 h2).1)
theorem am2 {b:Int} {c:ac} (h:CgR b c) (hb:b<=1000000000000):ae (T.oks bj c):=by
 have h1:=h.m
 have h2:=h.lt
 have h3:=h.li
 have h4:=h.ob
 have h5:=h.ob0
 have h6:=h.lc
 refine bqm (by rw [au];omega) ⟨by rw [fy];omega,fun x hx=>?_⟩ ⟨by rw [fy];omega,fun x hx=>?_⟩ ⟨by rw [fy];omega,fun x hx=>?_⟩ ⟨by rw [fy];omega,fun r hr=>⟨by have:=(h.row r hr).1;rw [fy];omega,fun x hx=>?_⟩⟩
 ·have:=h.fr x hx;show inK .i64 x;rw [au];omega
 ·have:=h.to x hx;show inK .i64 x;rw [au];omega
 ·have:=h.id x hx;show inK .i64 x;rw [au];omega
 ·have:=(h.row r hr).2 x hx;show inK .i64 x;rw [au];omega
theorem bgl {rel:List (List Int)} (hok:(T.sl (.sl (.int .i64))).ok rel) (h:RowP rel.length rel) (h8:rel.length<=8):CgR 64 (dh rel)/\(dh rel).1=(rel.length:Int)/\((dh rel).2.1.length:Int)<=8 * rel.length:=
 (aum rel (by simp only [iw,okL,lh,ae,and_true];exact qe _ _ hok) ⟨h,h8,trivial⟩).2
theorem aex {rel:List (List Int)} (hok:(T.sl (.sl (.int .i64))).ok rel) (h:RowP rel.length rel) (h8:rel.length<=8):CgR 64 (dh rel):=(bgl hok h h8).1
def bku (t:List (List Int)):Bool:=decide (t.length<=8) && t.all fun r=>decide (r.length<=8) && r.all fun x=>decide (0<=x/\x<=8)
theorem apf {t:List (List Int)} (h:bku t=true):(T.sl (.sl (.int .i64))).ok t:=by
 simp only [bku,Bool.and_eq_true,decide_eq_true_eq,List.all_eq_true]at h
 exact ⟨by rw [fy];omega,fun r hr=>⟨by have:=(h.2 r hr).1;rw [fy];omega,fun x hx=>by have:=(h.2 r hr).2 x hx;show inK .i64 x;rw [au];omega⟩⟩
theorem bkz {c d:ac} (h:CgR 64 c) (g:CgR 64 d):CgR 10000 (pd c d):=
 (axq c d (by simp only [ji,okL,lh,ae,and_true];exact ⟨am2 h (by omega),am2 g (by omega)⟩) ⟨h,g,trivial⟩).2
theorem bc3 {t:List (List Int)} (h:TblR t):CgR 8 (afn t):=bop h.lo h.hi h.rw_ h.en
def cgB (b:Int) (c:ac):Bool:=
 decide (1<=b) && decide (0<=c.1) && decide (c.1<=b) && decide ((c.2.1.length:Int)<=b) && decide (c.2.2.1.length=c.2.1.length) && decide ((c.2.2.2.1.length:Int)=c.1) && decide (c.2.2.2.2.length=c.2.1.length)
  && c.2.1.all (fun x=>decide (0<=x/\x<=b)) && c.2.2.1.all (fun x=>decide (0<=x/\x<=b)) && c.2.2.2.1.all (fun x=>decide (0<=x/\x<=b)) && c.2.2.2.2.all (fun r=>decide (r.length=c.2.1.length) && r.all (fun x=>decide (-b<=x/\x<=b)))
theorem bjd {b:Int} {c:ac} (h:cgB b c=true):CgR b c:=by
 simp only [cgB,Bool.and_eq_true,decide_eq_true_eq,List.all_eq_true]at h
 obtain ⟨⟨⟨⟨⟨⟨⟨⟨⟨⟨h1,h2⟩,h3⟩,h4⟩,h5⟩,h6⟩,h7⟩,h8⟩,h9⟩,h10⟩,h11⟩:=h
 exact ⟨h1,h2,h3,h4,h5,h6,h7,h8,h9,h10,h11⟩
def amc (n:Nat):Nat->List (List Int×List Int)
 | 0=>[([],[])]
 | k+1=>([],[])::((amc n k).flatMap fun q=>(List.range n).flatMap fun (y:Nat)=>(List.range y).map fun (x:Nat)=>(Int.ofNat x::q.1,Int.ofNat y::q.2))
theorem bn1:((amc 2 3).all fun q=>cgB 10000 (nq 2 q.1 q.2))=true:=by decide+kernel
theorem boz:((amc 3 3).all fun q=>cgB 10000 (nq 3 q.1 q.2))=true:=by decide+kernel
theorem ast {n:Nat}:∀ (k:Nat) (fr to:List Int),fr.length<=k->to.length=fr.length->(∀ i:Nat,i < fr.length->0<=fr.getD i 0/\fr.getD i 0 < to.getD i 0/\to.getD i 0 < n)->(fr,to) ∈ amc n k
 | 0,fr,to,h,hl,_=>by
  have h1:fr=[]:=List.eq_nil_of_length_eq_zero (by omega)
  have h2:to=[]:=List.eq_nil_of_length_eq_zero (by omega)
  subst h1;subst h2
  exact List.mem_singleton.2 rfl
 | k+1,[],to,_,hl,_=>by
  have h2:to=[]:=List.eq_nil_of_length_eq_zero hl
  subst h2
  exact List.mem_cons.2 (.inl rfl)
 | k+1,x::fr,[],_,hl,_=>by cases hl
 | k+1,x::fr,y::to,h,hl,he=>by
  have h0:=he 0 (by simp)
  simp only [List.getD_cons_zero]at h0
  have hi:=ast k fr to (by simpa using h) (by simpa using hl) (fun i hi=>by have:=he (i+1) (by simpa using hi);simpa using this)
  refine List.mem_cons.2 (.inr (List.mem_flatMap.2 ⟨_,hi,List.mem_flatMap.2 ⟨y.toNat,List.mem_range.2 (by omega),List.mem_map.2 ⟨x.toNat,List.mem_range.2 (by omega),?_⟩⟩⟩))
  have hx:Int.ofNat x.toNat=x:=by rw [Int.ofNat_eq_natCast];omega
  have hy:Int.ofNat y.toNat=y:=by rw [Int.ofNat_eq_natCast];omega
  dsimp only
  rw [hx,hy]
theorem axb {n:Int} {fr to:List Int} (h2:2<=n) (h3:n<=3) (hk:fr.length<=3) (hl:to.length=fr.length) (he:∀ i:Nat,i < fr.length->0<=fr.getD i 0/\fr.getD i 0 < to.getD i 0/\to.getD i 0 < n):CgR 10000 (nq n fr to):=by
 rcases (show n=2\/n=3 by omega)with e | e
 ·have hm:(fr,to) ∈ amc 2 3:=ast (n:=2) 3 fr to hk hl (fun i hi=>by have:=he i hi;omega)
  have h:=List.all_eq_true.1 bn1 (fr,to) hm
  rw [e]
  exact bjd h
 ·have hm:(fr,to) ∈ amc 3 3:=ast (n:=3) 3 fr to hk hl (fun i hi=>by have:=he i hi;omega)
  have h:=List.all_eq_true.1 boz (fr,to) hm
  rw [e]
  exact bjd h
structure EdP (n:Int) (fr to:List Int):Prop where
 l:to.length=fr.length
 e:∀ i:Nat,i < fr.length->0<=fr.getD i 0/\fr.getD i 0 < to.getD i 0/\to.getD i 0 < n
theorem EdP.push {n x y:Int} {fr to:List Int} (h:EdP n fr to) (h0:0<=x) (h1:x < y) (h2:y < n):EdP n (fr++[x]) (to++[y]):=
 ⟨by rw [List.length_append,List.length_append,h.l];rfl,fun i hi=>by
  have hl:=h.l
  rw [List.length_append]at hi
  simp only [List.length_cons,List.length_nil]at hi
  by_cases hc:i < fr.length
  ·rw [ade hc,ade (by omega)];exact h.e i hc
  ·have e1:i=fr.length:=by omega
   have e2:(to++[y]).getD fr.length 0=y:=by rw [← hl];exact av7 to
   rw [e1,e2,av7 fr]
   exact ⟨h0,h1,h2⟩⟩
structure OnP (n k:Int) (t:List (List Int)):Prop where
 l:(t.length:Int)=k
 e:∀ r ∈ t,(r.length:Int)=n
theorem OnP.push {n k:Int} {t:List (List Int)} {r:List Int} (h:OnP n k t) (hr:(r.length:Int)=n):OnP n (k+1) (t++[r]):=
 ⟨by rw [List.length_append];have:=h.l;simp only [List.length_cons,List.length_nil];omega,fun y hy=>by
  rcases List.mem_append.1 hy with hy | hy
  ·exact h.e y hy
  ·rw [List.mem_singleton.1 hy];exact hr⟩
def eh:Wt:=⟨(.pt (.fz bp)),[],[],fun x y=>[ck x],fun x _=>x,[(true,ku)],fun _ _=>dfR _⟩
def uw (s:ah) (z:ah) (r0:ac):Prop:=ck z/\CgR 10000 r0
def wx:Ann:=(.s .n (.s (.s .n (.s .n (.s .n (.s .n (.s .n (.s .n (.s .n (.s .n (.s .n (.s .n (.s .n (.s .n (.s (.s .n (.s .n (.s (.s .n (.l [(0,(.ad 1000000 [.de])),(2,(.ad 2 [.de])),(4,(.ref 800004 [])),(5,(.d (.int .i64)))] [(1000000,(.pt (.fz (.p (.sl (.int .u8)) (.p (.int .i64) (.int .u64)))))),(2,(.pt (.p (.fz (.int .i64)) (.p (.sl (.fz (.int .i64))) (.p (.sl (.fz (.int .i64))) (.p (.sl (.fz (.int .i64))) (.sl (.sl (.fz (.int .i64)))))))))),(800004,(.sl (.sl (.fz (.int .i64)))))] [3] (.s .n (.s (.s .n (.s (.s .n (.l [(0,(.ad 1000000 [.de])),(2,(.ad 2 [.de])),(4,(.ref 800004 [])),(6,(.ref 800006 [])),(7,(.d (.int .i64)))] [(1000000,(.pt (.fz (.p (.sl (.int .u8)) (.p (.int .i64) (.int .u64)))))),(2,(.pt (.p (.fz (.int .i64)) (.p (.sl (.fz (.int .i64))) (.p (.sl (.fz (.int .i64))) (.p (.sl (.fz (.int .i64))) (.sl (.sl (.fz (.int .i64)))))))))),(800004,(.sl (.sl (.fz (.int .i64))))),(800006,(.sl (.fz (.int .i64))))] [3,5] .n)) .n)) .n)))) .n))) .n))))))))))))) (.s .n (.s .n (.s (.s .n (.l [(0,(.ad 1000000 [.de])),(2,(.ad 2 [.de])),(9,(.ref 800009 [])),(10,(.ref 800010 [])),(11,(.d (.int .i64)))] [(1000000,(.pt (.fz (.p (.sl (.int .u8)) (.p (.int .i64) (.int .u64)))))),(2,(.pt (.p (.fz (.int .i64)) (.p (.sl (.fz (.int .i64))) (.p (.sl (.fz (.int .i64))) (.p (.sl (.fz (.int .i64))) (.sl (.sl (.fz (.int .i64)))))))))),(800009,(.sl (.fz (.int .i64)))),(800010,(.sl (.fz (.int .i64))))] [8] .n)) .n)))))
def wy:FuncId->Option Ct:=lkp [(79,ez),(146,ah4),(149,af4),(152,vx),(154,x4),(151,kz),(153,ow),(94,kx),(140,si)]
def q6 (s:ah) (K:ah->(ac×Unit)->Prop):Prop:=((0<=s.2.1)/\(cnd ((ab s 12) == 0) ((0<=(aa s 12).2.1)/\((ck (aa (aa s 12) 5))/\((0<=(ab (aa s 12) 5))/\(((ab (aa s 12) 5)<=8)/\((RowP (((List.length (df (aa (aa s 12) 5) (ab (aa s 12) 5))):Nat):Int) (df (aa (aa s 12) 5) (ab (aa s 12) 5)))/\(((List.length (df (aa (aa s 12) 5) (ab (aa s 12) 5)))<=8)/\(K (oi (aa (aa s 12) 5) (ab (aa s 12) 5)) ((dh (df (aa (aa s 12) 5) (ab (aa s 12) 5))),())))))))) (cnd ((ab s 12) == 1) ((RowP (((List.length ((1::(1::[]))::((0::(1::[]))::[]))):Nat):Int) ((1::(1::[]))::((0::(1::[]))::[])))/\(((List.length ((1::(1::[]))::((0::(1::[]))::[])))<=8)/\(K (aa s 12) ((dh ((1::(1::[]))::((0::(1::[]))::[]))),())))) (cnd ((ab s 12) == 2) ((RowP (((List.length ((1::(1::(1::[])))::((0::(1::(0::[])))::((0::(0::(1::[])))::[])))):Nat):Int) ((1::(1::(1::[])))::((0::(1::(0::[])))::((0::(0::(1::[])))::[]))))/\(((List.length ((1::(1::(1::[])))::((0::(1::(0::[])))::((0::(0::(1::[])))::[]))))<=8)/\(K (aa s 12) ((dh ((1::(1::(1::[])))::((0::(1::(0::[])))::((0::(0::(1::[])))::[])))),())))) (cnd ((ab s 12) == 3) (((0:Int)<=2)/\(((2:Int)<=8)/\(((List.length (1::(1::[])))=(List.length (0::(0::[]))))/\(((List.length (0::(0::[])))<=1000000000)/\(K (aa s 12) ((nq 2 (0::(0::[])) (1::(1::[]))),())))))) (cnd ((ab s 12) == 4) ((ck (aa s 12))/\((OwnP (f8 (aa s 12)))/\(K (oc (aa s 12)) ((afn (f8 (aa s 12))),())))) (cnd ((ab s 12) == 5) ((0<=(aa s 12).2.1)/\((inK .i64 (1+(ab (aa s 12) 3)))/\(bu (S:=((Unit×brc)×(brd×(brb×brj)))) (fun s1=>(fun next=>((inK .i64 s1.1.2.2.2.1)->((T.ok (.sl (.int .u8)) s1.2.1.1)->((inK .i64 s1.2.1.2.1)->((inK .u64 s1.2.1.2.2)->((inK .i64 s1.2.2.1.1)->((T.ok (.sl (.int .i64)) s1.2.2.1.2.1)->((T.ok (.sl (.int .i64)) s1.2.2.1.2.2.1)->((T.ok (.sl (.int .i64)) s1.2.2.1.2.2.2.1)->((T.ok (.sl (.sl (.int .i64))) s1.2.2.1.2.2.2.2)->((T.ok (.sl (.sl (.int .i64))) s1.2.2.2.1)->(cnd (decide (s1.1.2.2.2.1 < (1+(ab (aa s 12) 3)))) (bu (S:=(brv×(brd×(brb×(brt×brg))))) (fun s2=>(fun next1=>((inK .i64 s2.1.2.2.2.2.1)->((T.ok (.sl (.int .u8)) s2.2.1.1)->((inK .i64 s2.2.1.2.1)->((inK .u64 s2.2.1.2.2)->((inK .i64 s2.2.2.1.1)->((T.ok (.sl (.int .i64)) s2.2.2.1.2.1)->((T.ok (.sl (.int .i64)) s2.2.2.1.2.2.1)->((T.ok (.sl (.int .i64)) s2.2.2.1.2.2.2.1)->((T.ok (.sl (.sl (.int .i64))) s2.2.2.1.2.2.2.2)->((T.ok (.sl (.sl (.int .i64))) s2.2.2.2.1)->((T.ok (.sl (.int .i64)) s2.2.2.2.2.1)->(cnd (decide (s2.1.2.2.2.2.1 < (1+(ab (aa s 12) 3)))) ((fg s2.2.2.2.2.1.length (List.length (1::[])) 8)/\((inK .i64 (s2.1.2.2.2.2.1+1))/\(next1 (((),((),((),((),((s2.1.2.2.2.2.1+1),()))))),(s2.2.1,(s2.2.2.1,(s2.2.2.2.1,((s2.2.2.2.2.1++(1::[])),())))))))) ((fg s2.2.2.2.1.length (List.length (s2.2.2.2.2.1::[])) 24)/\((inK .i64 (s1.1.2.2.2.1+1))/\(next (((),((),((),((s1.1.2.2.2.1+1),())))),(s2.2.1,(s2.2.2.1,((s2.2.2.2.1++(s2.2.2.2.2.1::[])),()))))))))))))))))))))) (((),((),((),((),(0,()))))),(s1.2.1,(s1.2.2.1,(s1.2.2.2.1,([],())))))) ((RowP ((s1.2.2.2.1.length:Nat):Int) s1.2.2.2.1)/\((s1.2.2.2.1.length<=8)/\(K s1.2.1 ((dh s1.2.2.2.1),()))))))))))))))))) (((),((),((),(0,())))),((aa (aa s 12) 3),((0,([],([],([],[])))),([],()))))))) (cnd ((ab s 12) == 6) (((0:Int)<=3)/\(((3:Int)<=8)/\(((List.length (1::(2::(2::[]))))=(List.length (0::(1::(0::[])))))/\(((List.length (0::(1::(0::[]))))<=1000000000)/\(K (aa s 12) ((nq 3 (0::(1::(0::[]))) (1::(2::(2::[])))),())))))) (cnd ((ab s 12) == 7) (K (aa s 12) (w7,())) (cnd ((ab s 12) == 8) ((ck (aa s 12))/\((OwnP (f8 (aa s 12)))/\((RowP (((List.length ((1::[])::[])):Nat):Int) ((1::[])::[]))/\(((List.length ((1::[])::[]))<=8)/\((CgR 64 (afn (f8 (aa s 12))))/\((CgR 64 (dh ((1::[])::[])))/\((SqR (pd (afn (f8 (aa s 12))) (dh ((1::[])::[]))))/\(K (oc (aa s 12)) ((opR (pd (afn (f8 (aa s 12))) (dh ((1::[])::[])))),()))))))))) (cnd ((ab s 12) == 9) ((ck (aa s 12))/\((OwnP (f8 (aa s 12)))/\((RowP (((List.length ((1::[])::[])):Nat):Int) ((1::[])::[]))/\(((List.length ((1::[])::[]))<=8)/\((CgR 64 (afn (f8 (aa s 12))))/\((CgR 64 (dh ((1::[])::[])))/\(K (oc (aa s 12)) ((pd (afn (f8 (aa s 12))) (dh ((1::[])::[]))),())))))))) (cnd ((ab s 12) == 10) ((0<=(aa s 12).2.1)/\((inK .i64 (2+(ab (aa s 12) 2)))/\((ck (aa (aa s 12) 2))/\((0<=(2+(ab (aa s 12) 2)))/\(((2+(ab (aa s 12) 2))<=8)/\((RowP (((List.length (df (aa (aa s 12) 2) (2+(ab (aa s 12) 2)))):Nat):Int) (df (aa (aa s 12) 2) (2+(ab (aa s 12) 2))))/\(((List.length (df (aa (aa s 12) 2) (2+(ab (aa s 12) 2))))<=8)/\(K (oi (aa (aa s 12) 2) (2+(ab (aa s 12) 2))) ((dh (df (aa (aa s 12) 2) (2+(ab (aa s 12) 2)))),()))))))))) ((0<=(aa s 12).2.1)/\((inK .i64 (2+(ab (aa s 12) 2)))/\((0<=(aa (aa s 12) 2).2.1)/\(bu (S:=(brv×(brd×(brb×brs)))) (fun s1=>(fun next=>((inK .i64 s1.1.2.2.2.2.1)->((T.ok (.sl (.int .u8)) s1.2.1.1)->((inK .i64 s1.2.1.2.1)->((inK .u64 s1.2.1.2.2)->((inK .i64 s1.2.2.1.1)->((T.ok (.sl (.int .i64)) s1.2.2.1.2.1)->((T.ok (.sl (.int .i64)) s1.2.2.1.2.2.1)->((T.ok (.sl (.int .i64)) s1.2.2.1.2.2.2.1)->((T.ok (.sl (.sl (.int .i64))) s1.2.2.1.2.2.2.2)->((T.ok (.sl (.int .i64)) s1.2.2.2.1)->((T.ok (.sl (.int .i64)) s1.2.2.2.2.1)->(cnd (decide (0 < s1.1.2.2.2.2.1)) ((inK .i64 ((2+(ab (aa s 12) 2)) - 1))/\((0<=s1.2.1.2.1)/\((fg s1.2.2.2.1.length (List.length ((ab s1.2.1 ((2+(ab (aa s 12) 2)) - 1))::[])) 8)/\((inK .i64 ((ab s1.2.1 ((2+(ab (aa s 12) 2)) - 1))+1))/\((inK .i64 ((2+(ab (aa s 12) 2)) - 1))/\((inK .i64 (((2+(ab (aa s 12) 2)) - 1) - (ab s1.2.1 ((2+(ab (aa s 12) 2)) - 1))))/\((0<=(aa s1.2.1 ((2+(ab (aa s 12) 2)) - 1)).2.1)/\((inK .i64 (((ab s1.2.1 ((2+(ab (aa s 12) 2)) - 1))+1)+(ab (aa s1.2.1 ((2+(ab (aa s 12) 2)) - 1)) (((2+(ab (aa s 12) 2)) - 1) - (ab s1.2.1 ((2+(ab (aa s 12) 2)) - 1))))))/\((fg s1.2.2.2.2.1.length (List.length ((((ab s1.2.1 ((2+(ab (aa s 12) 2)) - 1))+1)+(ab (aa s1.2.1 ((2+(ab (aa s 12) 2)) - 1)) (((2+(ab (aa s 12) 2)) - 1) - (ab s1.2.1 ((2+(ab (aa s 12) 2)) - 1)))))::[])) 8)/\((inK .i64 (s1.1.2.2.2.2.1 - 1))/\(next (((),((),((),((),((s1.1.2.2.2.2.1 - 1),()))))),((aa (aa s1.2.1 ((2+(ab (aa s 12) 2)) - 1)) (((2+(ab (aa s 12) 2)) - 1) - (ab s1.2.1 ((2+(ab (aa s 12) 2)) - 1)))),(s1.2.2.1,((s1.2.2.2.1++((ab s1.2.1 ((2+(ab (aa s 12) 2)) - 1))::[])),((s1.2.2.2.2.1++((((ab s1.2.1 ((2+(ab (aa s 12) 2)) - 1))+1)+(ab (aa s1.2.1 ((2+(ab (aa s 12) 2)) - 1)) (((2+(ab (aa s 12) 2)) - 1) - (ab s1.2.1 ((2+(ab (aa s 12) 2)) - 1)))))::[])),())))))))))))))))) ((0<=(2+(ab (aa s 12) 2)))/\(((2+(ab (aa s 12) 2))<=8)/\((s1.2.2.2.2.1.length=s1.2.2.2.1.length)/\((s1.2.2.2.1.length<=1000000000)/\(K s1.2.1 ((nq (2+(ab (aa s 12) 2)) s1.2.2.2.1 s1.2.2.2.2.1),())))))))))))))))))))) (((),((),((),((),((ab (aa (aa s 12) 2) 4),()))))),((aa (aa (aa s 12) 2) 4),((0,([],([],([],[])))),([],([],())))))))))))))))))))))
theorem as5 (x:eh.o.strip.den) (y:bi eh.as) (K:ah->(ac×Unit)->Prop):pc tab wy (aw []) Try.f137 (aj Try.f137) wx eh x y K=q6 x  K:=by kernel_rfl
theorem aip:okC Try.f137.ntmps (aw []) (aj Try.f137)=true:=by kernel_rfl
theorem aty (s:ah) (hok:ae (eh.o.strip.oks s)) (hok2:ae (okL eh.as (()))) (hpre:ae (eh.pre s (()))):q6 s (fun z r=>uw s z r.1):=by
 simp only [eh,O.strip,okL,T.oks,T.ok,ap,ae,true_and,and_true,implies_true]at hok hok2 hpre
 try dsimp only [T.den]at hok
 try dsimp only [T.den]at hok2
 try dsimp only [T.den]at hpre
 unfold q6 uw
 have h1:=je (n:=12) hpre (by rw [au];(try dsimp only);omega)
 refine ⟨hpre.2,?_⟩
 clear hok hok2 hpre
 generalize ab s 12=w at *
 generalize aa s 12=z at *
 have hZ:=h1.1
 clear h1
 refine be (fun _=>?_) (fun _=>be (fun _=>?_) (fun _=>be (fun _=>?_) (fun _=>be (fun _=>?_) (fun _=>be (fun _=>?_) (fun _=>be (fun _=>?_) (fun _=>be (fun _=>?_) (fun _=>be (fun _=>?_) (fun _=>be (fun _=>?_) (fun _=>be (fun _=>?_) (fun _=>be (fun _=>?_) (fun _=>?_)))))))))))
 ·have h2:=je (n:=5) hZ (by rw [au];(try dsimp only);omega)
  have h5:=h2.2.2.1 (by omega)
  have h3:=avf (s:=aa z 5) (n:=ab z 5) h2.1 h2.2.1 (by omega)
  have hl:=h3.2.1.l
  have hR:RowP ((df (aa z 5) (ab z 5)).length:Int) (df (aa z 5) (ab z 5)):=by rw [hl];exact h3.2.1
  exact ⟨hZ.2,h2.1,h2.2.1,by omega,hR,by omega,h3.1,(aex h3.2.2 hR (by omega)).le (by omega)⟩
 ·have hR:RowP (([[1,1],[0,1]]:List (List Int)).length:Int) [[1,1],[0,1]]:=⟨rfl,by decide⟩
  exact ⟨hR,by decide,hZ,(aex (apf (by decide)) hR (by decide)).le (by omega)⟩
 ·have hR:RowP (([[1,1,1],[0,1,0],[0,0,1]]:List (List Int)).length:Int) [[1,1,1],[0,1,0],[0,0,1]]:=⟨rfl,by decide⟩
  exact ⟨hR,by decide,hZ,(aex (apf (by decide)) hR (by decide)).le (by omega)⟩
 ·exact ⟨by decide,by decide,rfl,by decide,hZ,axb (by decide) (by decide) (by decide) rfl (by decide)⟩
 ·have h2:=asj hZ
  exact ⟨hZ,h2.2.1.own,h2.1,(bc3 h2.2.1).le (by omega)⟩
 ·have h2:=je (n:=3) hZ (by rw [au];(try dsimp only);omega)
  have h3:=h2.2.2.1 (by omega)
  have h4:=h2.2.1
  refine ⟨hZ.2,by rw [au];(try dsimp only);omega,?_⟩
  have hn:1<=1+ab z 3/\1+ab z 3<=3:=by omega
  generalize 1+ab z 3=n at *
  refine ca (fun (s:((Unit×brc)×(brd×(brb×brj))))=>0<=s.1.2.2.2.1/\s.1.2.2.2.1<=n/\ck s.2.1/\OnP n s.1.2.2.2.1 s.2.2.2.1) (fun (s:((Unit×brc)×(brd×(brb×brj))))=>(n - s.1.2.2.2.1).toNat) ?_ ⟨by simp,by dsimp only;omega,h2.1,rfl,by simp⟩
  rintro ⟨⟨_,_,_,i,_⟩,s1,o1,rel,_⟩ next ⟨i0,i1,hS,hR⟩ hnx
  intros
  try dsimp only at *
  refine bf (fun hi=>?_) (fun hi=>?_)
  ·refine ca (fun (s:(brv×(brd×(brb×(brt×brg)))))=>0<=s.1.2.2.2.2.1/\s.1.2.2.2.2.1<=n/\ck s.2.1/\s.2.2.2.1=rel/\(s.2.2.2.2.1.length:Int)=s.1.2.2.2.2.1) (fun (s:(brv×(brd×(brb×(brt×brg)))))=>(n - s.1.2.2.2.2.1).toNat) ?_ ⟨by simp,by dsimp only;omega,hS,rfl,rfl⟩
   rintro ⟨⟨_,_,_,_,j,_⟩,s2,o2,rel2,row,_⟩ next1 ⟨j0,j1,hS2,q,hj⟩ hn1
   intros
   try dsimp only at j0 j1 hS2 q hj hn1 ⊢
   subst q
   have hl:=hR.l
   refine bf (fun hc=>?_) (fun hc=>?_)
   ·exact ⟨cw (by simp only [List.length_cons,List.length_nil];omega),by rw [au];(try dsimp only);omega,hn1 _ ⟨by dsimp only;omega,by dsimp only;omega,hS2,rfl,by dsimp only;rw [List.length_append];simp only [List.length_cons,List.length_nil];omega⟩ (by dsimp only;omega)⟩
   ·exact ⟨cw (by simp only [List.length_cons,List.length_nil];omega),by rw [au];(try dsimp only);omega,hnx _ ⟨by dsimp only;omega,by dsimp only;omega,hS2,hR.push (by omega)⟩ (by dsimp only;omega)⟩
  ·have ei:i=n:=by omega
   subst ei
   have hl:=hR.l
   have hP:RowP (rel.length:Int) rel:=⟨rfl,fun r hr=>by rw [hl];exact hR.e r hr⟩
   exact ⟨hP,by omega,hS,(aex (by assumption) hP (by omega)).le (by omega)⟩
 ·exact ⟨by decide,by decide,rfl,by decide,hZ,axb (by decide) (by decide) (by decide) rfl (by decide)⟩
 ·exact ⟨hZ,(aux trivial trivial).2.le (by omega)⟩
 ·have h2:=asj hZ
  have hR:RowP (([[1]]:List (List Int)).length:Int) [[1]]:=⟨rfl,by decide⟩
  have hp:=aex (apf (by decide)) hR (by decide)
  have hm:=(bc3 h2.2.1).le (b:=64) (by omega)
  have hj:=bkz hm hp
  exact ⟨hZ,h2.2.1.own,hR,by decide,hm,hp,bqk hj (by omega),h2.1,bqu hj⟩
 ·have h2:=asj hZ
  have hR:RowP (([[1]]:List (List Int)).length:Int) [[1]]:=⟨rfl,by decide⟩
  have hp:=aex (apf (by decide)) hR (by decide)
  have hm:=(bc3 h2.2.1).le (b:=64) (by omega)
  have hj:=bkz hm hp
  exact ⟨hZ,h2.2.1.own,hR,by decide,hm,hp,h2.1,hj⟩
 ·have h2:=je (n:=2) hZ (by rw [au];(try dsimp only);omega)
  have h5:=h2.2.2.1 (by omega)
  have h6:=h2.2.1
  have h3:=avf (s:=aa z 2) (n:=2+ab z 2) h2.1 (by omega) (by omega)
  have hl:=h3.2.1.l
  have hR:RowP ((df (aa z 2) (2+ab z 2)).length:Int) (df (aa z 2) (2+ab z 2)):=by rw [hl];exact h3.2.1
  exact ⟨hZ.2,by rw [au];(try dsimp only);omega,h2.1,by omega,by omega,hR,by omega,h3.1,(aex h3.2.2 hR (by omega)).le (by omega)⟩
 ·have h2:=je (n:=2) hZ (by rw [au];(try dsimp only);omega)
  have h5:=h2.2.2.1 (by omega)
  have h6:=h2.2.1
  have h3:=je (n:=4) h2.1 (by rw [au];(try dsimp only);omega)
  have h7:=h3.2.2.1 (by omega)
  refine ⟨hZ.2,by rw [au];(try dsimp only);omega,h2.1.2,?_⟩
  have hn:2<=2+ab z 2/\2+ab z 2<=3:=by omega
  generalize 2+ab z 2=n at *
  refine ca (fun (s:(brv×(brd×(brb×brs))))=>0<=s.1.2.2.2.2.1/\(s.2.2.2.1.length:Int)+s.1.2.2.2.2.1<=3/\ck s.2.1/\EdP n s.2.2.2.1 s.2.2.2.2.1) (fun (s:(brv×(brd×(brb×brs))))=>s.1.2.2.2.2.1.toNat) ?_ ⟨h3.2.1,by dsimp only;simp only [List.length_nil];omega,h3.1,rfl,by simp⟩
  rintro ⟨⟨_,_,_,_,k,_⟩,s1,o1,fr,to,_⟩ next ⟨k0,k1,hS,hE⟩ hnx
  intros
  try dsimp only at k0 k1 hS hE hnx ⊢
  have hl:=hE.l
  refine bf (fun hc=>?_) (fun hc=>?_)
  ·have g1:=je (n:=n - 1) hS (by rw [au];(try dsimp only);omega)
   have g2:=g1.2.2.1 (by omega)
   have g3:=g1.2.1
   generalize ab s1 (n - 1)=x at *
   generalize aa s1 (n - 1)=s2 at *
   have g4:=je (n:=n - 1 - x) g1.1 (by rw [au];(try dsimp only);omega)
   have g5:=g4.2.2.1 (by omega)
   have g6:=g4.2.1
   exact ⟨by rw [au];(try dsimp only);omega,hS.2,cw (by simp only [List.length_cons,List.length_nil];omega),by rw [au];(try dsimp only);omega,by rw [au];(try dsimp only);omega,by rw [au];(try dsimp only);omega,g1.1.2,by rw [au];(try dsimp only);omega,cw (by simp only [List.length_cons,List.length_nil];omega),by rw [au];(try dsimp only);omega,hnx _ ⟨by dsimp only;omega,by dsimp only;rw [List.length_append];simp only [List.length_cons,List.length_nil];omega,g4.1,hE.push g3 (by omega) (by omega)⟩ (by dsimp only;omega)⟩
  ·exact ⟨by omega,by omega,hl,by omega,hS,axb hn.1 hn.2 (by omega) hl hE.e⟩
theorem yr (s:ah):∃ q:ah×(ac×Unit),ae (eh.o.strip.oks s)->ae (okL eh.as (()))->ae (eh.pre s (()))->q6 s (fun z r=>z=q.1/\r=q.2)/\ae (eh.o.strip.oks q.1)/\ae (okR eh.rt q.2)/\uw s q.1 q.2.1:=
 xk (f:=137) (Φ:=wy) (am du (am ag5 (am ael (am ain (am akf (am ag9 (am aoh (am ada (am yi ba))))))))) bo (by kernel_rfl) (fn:=Try.f137) (c:=aj Try.f137) (by kernel_rfl) (by kernel_rfl) (by kernel_rfl) eh wx (aw []) (ot (by kernel_rfl)) (by kernel_rfl) (by kernel_rfl) aip (by decide) (by kernel_rfl) (by kernel_rfl) bp rfl (by kernel_rfl) (fun x y K=>q6 x  K) as5 (fun x y z r=>uw x  z r.1) (fun x y h1 h2 h3=>aty x  h1 h2 h3) s (())
def ib (s:ah):ah:=(yr s).choose.1
def jb (s:ah):ac:=(yr s).choose.2.1
theorem atl (s:ah) (hok:ae (eh.o.strip.oks s)) (hok2:ae (okL eh.as (()))) (hpre:ae (eh.pre s (()))):ae (eh.o.strip.oks (ib s))/\ae (okR eh.rt (jb s,()))/\uw s (ib s) (jb s):=((yr s).choose_spec hok hok2 hpre).2
def sx:Wt:=⟨(.pt (.fz bp)),[],[],fun x y=>[ck x],fun x y=>(ib x),[(true,ku)],fun x y=>((jb x),())⟩
def aio:Ct:=ac8 sx
theorem aq7 (x:sx.o.strip.den) (y:bi sx.as) (K:ah->(ac×Unit)->Prop):pc tab wy (aw []) Try.f137 (aj Try.f137) wx sx x y K=q6 x  K:=by kernel_rfl
theorem ahb:dg Try.prog 137 aio:=
 acx (Φ:=wy) (am du (am ag5 (am ael (am ain (am akf (am ag9 (am aoh (am ada (am yi ba))))))))) bo (by kernel_rfl) (fn:=Try.f137) (c:=aj Try.f137) (by kernel_rfl) (by kernel_rfl) (by kernel_rfl) sx wx (aw []) (by kernel_rfl) (by kernel_rfl) aip (by decide) (by kernel_rfl) (fun x y h1 h2 h3=>(aq7 x y _).mpr ((yr x).choose_spec h1 h2 h3).1)
theorem atq {s:ah} (h:ck s):ck (ib s)/\CgR 10000 (jb s):=
 (atl s h.1 trivial ⟨h,trivial⟩).2.2
structure LiB (k:Int) (w:List Int):Prop where
 l:(w.length:Int)=k
 e:∀ x ∈ w,0<=x/\x<=1000000000
theorem LiB.push {k x:Int} {w:List Int} (h:LiB k w) (h0:0<=x) (h1:x<=1000000000):LiB (k+1) (w++[x]):=
 ⟨by rw [List.length_append];have:=h.l;simp only [List.length_cons,List.length_nil];omega,axx h.e ⟨h0,h1⟩⟩
theorem LiB.to {k k':Int} {w:List Int} (h:LiB k w) (e:k=k'):LiB k' w:=e ▸ h
theorem RwB.to {k k' b:Int} {w:List Int} (h:RwB k b w) (e:k=k'):RwB k' b w:=e ▸ h
theorem TbB.to {k k' n b:Int} {w:List (List Int)} (h:TbB k n b w) (e:k=k'):TbB k' n b w:=e ▸ h
theorem aug {x y:Int}:(x+1) * y=x * y+y:=by rw [Int.add_mul,Int.one_mul]
def gr:Ct:=⟨[bj,bj],[true,true],fun x=>[CgR 20000 x.1,CgR 10000 x.2.1],[(true,ku)],fun _=>dfR _,false,none⟩
def ta (c:ac) (d:ac) (r0:ac):Prop:=CgR 1000000000 r0
def v6:Ann:=(.s .n (.s .n (.s .n (.s (.s .n (.l [(4,(.ad 4 [.de])),(7,(.ad 7 [.de])),(8,(.d (.int .i64)))] [(4,(.pt (.p (.fz (.int .i64)) (.p (.sl (.fz (.int .i64))) (.p (.sl (.fz (.int .i64))) (.p (.sl (.fz (.int .i64))) (.sl (.sl (.fz (.int .i64)))))))))),(7,(.pt (.p (.fz (.int .i64)) (.p (.sl (.fz (.int .i64))) (.p (.sl (.fz (.int .i64))) (.p (.sl (.fz (.int .i64))) (.sl (.sl (.fz (.int .i64))))))))))] [2,3,5,6] (.s .n (.s (.s .n (.l [(4,(.ad 4 [.de])),(7,(.ad 7 [.de])),(9,(.d (.int .i64)))] [(4,(.pt (.p (.fz (.int .i64)) (.p (.sl (.fz (.int .i64))) (.p (.sl (.fz (.int .i64))) (.p (.sl (.fz (.int .i64))) (.sl (.sl (.fz (.int .i64)))))))))),(7,(.pt (.p (.fz (.int .i64)) (.p (.sl (.fz (.int .i64))) (.p (.sl (.fz (.int .i64))) (.p (.sl (.fz (.int .i64))) (.sl (.sl (.fz (.int .i64))))))))))] [2,3,5,6,8] .n)) .n)))) (.s (.s .n (.l [(4,(.ad 4 [.de])),(7,(.ad 7 [.de])),(10,(.d (.int .i64)))] [(4,(.pt (.p (.fz (.int .i64)) (.p (.sl (.fz (.int .i64))) (.p (.sl (.fz (.int .i64))) (.p (.sl (.fz (.int .i64))) (.sl (.sl (.fz (.int .i64)))))))))),(7,(.pt (.p (.fz (.int .i64)) (.p (.sl (.fz (.int .i64))) (.p (.sl (.fz (.int .i64))) (.p (.sl (.fz (.int .i64))) (.sl (.sl (.fz (.int .i64))))))))))] [2,3,5,6] (.s .n (.s (.s .n (.l [(4,(.ad 4 [.de])),(7,(.ad 7 [.de])),(11,(.d (.int .i64)))] [(4,(.pt (.p (.fz (.int .i64)) (.p (.sl (.fz (.int .i64))) (.p (.sl (.fz (.int .i64))) (.p (.sl (.fz (.int .i64))) (.sl (.sl (.fz (.int .i64)))))))))),(7,(.pt (.p (.fz (.int .i64)) (.p (.sl (.fz (.int .i64))) (.p (.sl (.fz (.int .i64))) (.p (.sl (.fz (.int .i64))) (.sl (.sl (.fz (.int .i64))))))))))] [2,3,5,6,10] (.s .n (.s (.s .n (.s .n (.s .n (.s (.s .n (.l [(4,(.ad 4 [.de])),(7,(.ad 7 [.de])),(12,(.ref 800012 [])),(13,(.d (.int .i64)))] [(4,(.pt (.p (.fz (.int .i64)) (.p (.sl (.fz (.int .i64))) (.p (.sl (.fz (.int .i64))) (.p (.sl (.fz (.int .i64))) (.sl (.sl (.fz (.int .i64)))))))))),(7,(.pt (.p (.fz (.int .i64)) (.p (.sl (.fz (.int .i64))) (.p (.sl (.fz (.int .i64))) (.p (.sl (.fz (.int .i64))) (.sl (.sl (.fz (.int .i64)))))))))),(800012,(.sl (.fz (.int .i64))))] [2,3,5,6,10,11] (.s .n (.s (.s .n (.l [(4,(.ad 4 [.de])),(7,(.ad 7 [.de])),(12,(.ref 800012 [])),(14,(.d (.int .i64)))] [(4,(.pt (.p (.fz (.int .i64)) (.p (.sl (.fz (.int .i64))) (.p (.sl (.fz (.int .i64))) (.p (.sl (.fz (.int .i64))) (.sl (.sl (.fz (.int .i64)))))))))),(7,(.pt (.p (.fz (.int .i64)) (.p (.sl (.fz (.int .i64))) (.p (.sl (.fz (.int .i64))) (.p (.sl (.fz (.int .i64))) (.sl (.sl (.fz (.int .i64)))))))))),(800012,(.sl (.fz (.int .i64))))] [2,3,5,6,10,11,13] (.s .n (.s (.s .n (.s (.s .n (.j [(4,(.ad 4 [.de])),(7,(.ad 7 [.de])),(12,(.ref 800012 [])),(15,(.d (.int .i64)))] [(4,(.pt (.p (.fz (.int .i64)) (.p (.sl (.fz (.int .i64))) (.p (.sl (.fz (.int .i64))) (.p (.sl (.fz (.int .i64))) (.sl (.sl (.fz (.int .i64)))))))))),(7,(.pt (.p (.fz (.int .i64)) (.p (.sl (.fz (.int .i64))) (.p (.sl (.fz (.int .i64))) (.p (.sl (.fz (.int .i64))) (.sl (.sl (.fz (.int .i64)))))))))),(800012,(.sl (.fz (.int .i64))))] [2,3,5,6,10,11,13,14] .n)) .n)) .n)))) .n)))) .n)))) .n)))) .n)))) .n)))))
def n5 (c:ac) (d:ac) (K:ac×Unit->Prop):Prop:=((inK .i64 (c.1 * d.1))/\(bu (S:=(brc×brf)) (fun s=>(fun next=>((inK .i64 s.1.2.2.1)->((inK .i64 s.2.1.1)->((T.ok (.sl (.int .i64)) s.2.1.2.1)->((T.ok (.sl (.int .i64)) s.2.1.2.2.1)->((T.ok (.sl (.int .i64)) s.2.1.2.2.2.1)->((T.ok (.sl (.sl (.int .i64))) s.2.1.2.2.2.2)->((inK .i64 s.2.2.1.1)->((T.ok (.sl (.int .i64)) s.2.2.1.2.1)->((T.ok (.sl (.int .i64)) s.2.2.1.2.2.1)->((T.ok (.sl (.int .i64)) s.2.2.1.2.2.2.1)->((T.ok (.sl (.sl (.int .i64))) s.2.2.1.2.2.2.2)->(cnd (decide (s.1.2.2.1 < c.1)) (bu (S:=(brc×brf)) (fun s1=>(fun next1=>((inK .i64 s1.1.2.2.1)->((inK .i64 s1.2.1.1)->((T.ok (.sl (.int .i64)) s1.2.1.2.1)->((T.ok (.sl (.int .i64)) s1.2.1.2.2.1)->((T.ok (.sl (.int .i64)) s1.2.1.2.2.2.1)->((T.ok (.sl (.sl (.int .i64))) s1.2.1.2.2.2.2)->((inK .i64 s1.2.2.1.1)->((T.ok (.sl (.int .i64)) s1.2.2.1.2.1)->((T.ok (.sl (.int .i64)) s1.2.2.1.2.2.1)->((T.ok (.sl (.int .i64)) s1.2.2.1.2.2.2.1)->((T.ok (.sl (.sl (.int .i64))) s1.2.2.1.2.2.2.2)->(cnd (decide (s1.1.2.2.1 < d.1)) ((0<=s.1.2.2.1)/\((s.1.2.2.1 < ((c.2.2.2.1.length:Nat):Int))/\((inK .i64 ((List.getD c.2.2.2.1 s.1.2.2.1.toNat 0) * ((d.2.1.length:Nat):Int)))/\((0<=s1.1.2.2.1)/\((s1.1.2.2.1 < ((d.2.2.2.1.length:Nat):Int))/\((inK .i64 (((List.getD c.2.2.2.1 s.1.2.2.1.toNat 0) * ((d.2.1.length:Nat):Int))+(List.getD d.2.2.2.1 s1.1.2.2.1.toNat 0)))/\((fg s1.2.2.1.2.2.2.1.length (List.length ((((List.getD c.2.2.2.1 s.1.2.2.1.toNat 0) * ((d.2.1.length:Nat):Int))+(List.getD d.2.2.2.1 s1.1.2.2.1.toNat 0))::[])) 8)/\((inK .i64 (s1.1.2.2.1+1))/\(next1 (((),((),((s1.1.2.2.1+1),()))),(s1.2.1,((s1.2.2.1.1,(s1.2.2.1.2.1,(s1.2.2.1.2.2.1,((s1.2.2.1.2.2.2.1++((((List.getD c.2.2.2.1 s.1.2.2.1.toNat 0) * ((d.2.1.length:Nat):Int))+(List.getD d.2.2.2.1 s1.1.2.2.1.toNat 0))::[])),s1.2.2.1.2.2.2.2)))),())))))))))))) ((inK .i64 (s.1.2.2.1+1))/\(next (((),((),((s.1.2.2.1+1),()))),(s1.2.1,(s1.2.2.1,()))))))))))))))))))) (((),((),(0,()))),(s.2.1,(s.2.2.1,())))) (bu (S:=(brc×brf)) (fun s1=>(fun next1=>((inK .i64 s1.1.2.2.1)->((inK .i64 s1.2.1.1)->((T.ok (.sl (.int .i64)) s1.2.1.2.1)->((T.ok (.sl (.int .i64)) s1.2.1.2.2.1)->((T.ok (.sl (.int .i64)) s1.2.1.2.2.2.1)->((T.ok (.sl (.sl (.int .i64))) s1.2.1.2.2.2.2)->((inK .i64 s1.2.2.1.1)->((T.ok (.sl (.int .i64)) s1.2.2.1.2.1)->((T.ok (.sl (.int .i64)) s1.2.2.1.2.2.1)->((T.ok (.sl (.int .i64)) s1.2.2.1.2.2.2.1)->((T.ok (.sl (.sl (.int .i64))) s1.2.2.1.2.2.2.2)->(cnd (decide (s1.1.2.2.1 < ((c.2.1.length:Nat):Int))) (bu (S:=(brc×brf)) (fun s2=>(fun next2=>((inK .i64 s2.1.2.2.1)->((inK .i64 s2.2.1.1)->((T.ok (.sl (.int .i64)) s2.2.1.2.1)->((T.ok (.sl (.int .i64)) s2.2.1.2.2.1)->((T.ok (.sl (.int .i64)) s2.2.1.2.2.2.1)->((T.ok (.sl (.sl (.int .i64))) s2.2.1.2.2.2.2)->((inK .i64 s2.2.2.1.1)->((T.ok (.sl (.int .i64)) s2.2.2.1.2.1)->((T.ok (.sl (.int .i64)) s2.2.2.1.2.2.1)->((T.ok (.sl (.int .i64)) s2.2.2.1.2.2.2.1)->((T.ok (.sl (.sl (.int .i64))) s2.2.2.1.2.2.2.2)->(cnd (decide (s2.1.2.2.1 < ((d.2.1.length:Nat):Int))) ((0<=s1.1.2.2.1)/\((s1.1.2.2.1 < ((c.2.1.length:Nat):Int))/\((inK .i64 ((List.getD c.2.1 s1.1.2.2.1.toNat 0) * d.1))/\((0<=s2.1.2.2.1)/\((s2.1.2.2.1 < ((d.2.1.length:Nat):Int))/\((inK .i64 (((List.getD c.2.1 s1.1.2.2.1.toNat 0) * d.1)+(List.getD d.2.1 s2.1.2.2.1.toNat 0)))/\((fg s2.2.2.1.2.1.length (List.length ((((List.getD c.2.1 s1.1.2.2.1.toNat 0) * d.1)+(List.getD d.2.1 s2.1.2.2.1.toNat 0))::[])) 8)/\((0<=s1.1.2.2.1)/\((s1.1.2.2.1 < ((c.2.2.1.length:Nat):Int))/\((inK .i64 ((List.getD c.2.2.1 s1.1.2.2.1.toNat 0) * d.1))/\((0<=s2.1.2.2.1)/\((s2.1.2.2.1 < ((d.2.2.1.length:Nat):Int))/\((inK .i64 (((List.getD c.2.2.1 s1.1.2.2.1.toNat 0) * d.1)+(List.getD d.2.2.1 s2.1.2.2.1.toNat 0)))/\((fg s2.2.2.1.2.2.1.length (List.length ((((List.getD c.2.2.1 s1.1.2.2.1.toNat 0) * d.1)+(List.getD d.2.2.1 s2.1.2.2.1.toNat 0))::[])) 8)/\(bu (S:=bre) (fun s3=>(fun next3=>((inK .i64 s3.1.2.2.2.1)->((inK .i64 s3.2.1.1)->((T.ok (.sl (.int .i64)) s3.2.1.2.1)->((T.ok (.sl (.int .i64)) s3.2.1.2.2.1)->((T.ok (.sl (.int .i64)) s3.2.1.2.2.2.1)->((T.ok (.sl (.sl (.int .i64))) s3.2.1.2.2.2.2)->((inK .i64 s3.2.2.1.1)->((T.ok (.sl (.int .i64)) s3.2.2.1.2.1)->((T.ok (.sl (.int .i64)) s3.2.2.1.2.2.1)->((T.ok (.sl (.int .i64)) s3.2.2.1.2.2.2.1)->((T.ok (.sl (.sl (.int .i64))) s3.2.2.1.2.2.2.2)->((T.ok (.sl (.int .i64)) s3.2.2.2.1)->(cnd (decide (s3.1.2.2.2.1 < ((c.2.1.length:Nat):Int))) (bu (S:=bre) (fun s4=>(fun next4=>((inK .i64 s4.1.2.2.2.1)->((inK .i64 s4.2.1.1)->((T.ok (.sl (.int .i64)) s4.2.1.2.1)->((T.ok (.sl (.int .i64)) s4.2.1.2.2.1)->((T.ok (.sl (.int .i64)) s4.2.1.2.2.2.1)->((T.ok (.sl (.sl (.int .i64))) s4.2.1.2.2.2.2)->((inK .i64 s4.2.2.1.1)->((T.ok (.sl (.int .i64)) s4.2.2.1.2.1)->((T.ok (.sl (.int .i64)) s4.2.2.1.2.2.1)->((T.ok (.sl (.int .i64)) s4.2.2.1.2.2.2.1)->((T.ok (.sl (.sl (.int .i64))) s4.2.2.1.2.2.2.2)->((T.ok (.sl (.int .i64)) s4.2.2.2.1)->(cnd (decide (s4.1.2.2.2.1 < ((d.2.1.length:Nat):Int))) ((0<=s1.1.2.2.1)/\((s1.1.2.2.1 < ((c.2.2.2.2.length:Nat):Int))/\((0<=s3.1.2.2.2.1)/\((s3.1.2.2.2.1 < (((List.length (List.getD c.2.2.2.2 s1.1.2.2.1.toNat [])):Nat):Int))/\((((decide (0<=(List.getD (List.getD c.2.2.2.2 s1.1.2.2.1.toNat []) s3.1.2.2.2.1.toNat 0)))=true)->((s2.1.2.2.1 < ((d.2.2.2.2.length:Nat):Int))/\(0<=s2.1.2.2.1)))/\((((decide (0<=(List.getD (List.getD c.2.2.2.2 s1.1.2.2.1.toNat []) s3.1.2.2.2.1.toNat 0)))=true)->((s4.1.2.2.2.1 < (((List.length (List.getD d.2.2.2.2 s2.1.2.2.1.toNat [])):Nat):Int))/\(0<=s4.1.2.2.2.1)))/\(fk (S:=bre) (fun s5=>((inK .i64 s5.1.2.2.2.1)->((inK .i64 s5.2.1.1)->((T.ok (.sl (.int .i64)) s5.2.1.2.1)->((T.ok (.sl (.int .i64)) s5.2.1.2.2.1)->((T.ok (.sl (.int .i64)) s5.2.1.2.2.2.1)->((T.ok (.sl (.sl (.int .i64))) s5.2.1.2.2.2.2)->((inK .i64 s5.2.2.1.1)->((T.ok (.sl (.int .i64)) s5.2.2.1.2.1)->((T.ok (.sl (.int .i64)) s5.2.2.1.2.2.1)->((T.ok (.sl (.int .i64)) s5.2.2.1.2.2.2.1)->((T.ok (.sl (.sl (.int .i64))) s5.2.2.1.2.2.2.2)->((T.ok (.sl (.int .i64)) s5.2.2.2.1)->((fg s5.2.2.2.1.length (List.length (s5.1.2.2.2.1::[])) 8)/\((inK .i64 (s4.1.2.2.2.1+1))/\(next4 (((),((),((),((s4.1.2.2.2.1+1),())))),(s5.2.1,(s5.2.2.1,((s5.2.2.2.1++(s5.1.2.2.2.1::[])),())))))))))))))))))))) (fun k=>(cnd ((decide (0<=(List.getD (List.getD c.2.2.2.2 s1.1.2.2.1.toNat []) s3.1.2.2.2.1.toNat 0))) && (decide (0<=(List.getD (List.getD d.2.2.2.2 s2.1.2.2.1.toNat []) s4.1.2.2.2.1.toNat 0)))) ((0<=s1.1.2.2.1)/\((s1.1.2.2.1 < ((c.2.2.2.2.length:Nat):Int))/\((0<=s3.1.2.2.2.1)/\((s3.1.2.2.2.1 < (((List.length (List.getD c.2.2.2.2 s1.1.2.2.1.toNat [])):Nat):Int))/\((inK .i64 ((List.getD (List.getD c.2.2.2.2 s1.1.2.2.1.toNat []) s3.1.2.2.2.1.toNat 0) * ((d.2.1.length:Nat):Int)))/\((0<=s2.1.2.2.1)/\((s2.1.2.2.1 < ((d.2.2.2.2.length:Nat):Int))/\((0<=s4.1.2.2.2.1)/\((s4.1.2.2.2.1 < (((List.length (List.getD d.2.2.2.2 s2.1.2.2.1.toNat [])):Nat):Int))/\((inK .i64 (((List.getD (List.getD c.2.2.2.2 s1.1.2.2.1.toNat []) s3.1.2.2.2.1.toNat 0) * ((d.2.1.length:Nat):Int))+(List.getD (List.getD d.2.2.2.2 s2.1.2.2.1.toNat []) s4.1.2.2.2.1.toNat 0)))/\(k (((),((),((),((((List.getD (List.getD c.2.2.2.2 s1.1.2.2.1.toNat []) s3.1.2.2.2.1.toNat 0) * ((d.2.1.length:Nat):Int))+(List.getD (List.getD d.2.2.2.2 s2.1.2.2.1.toNat []) s4.1.2.2.2.1.toNat 0)),())))),(s4.2.1,(s4.2.2.1,(s4.2.2.2.1,()))))))))))))))) (k (((),((),((),((-1),())))),(s4.2.1,(s4.2.2.1,(s4.2.2.2.1,())))))))))))))) ((inK .i64 (s3.1.2.2.2.1+1))/\(next3 (((),((),((),((s3.1.2.2.2.1+1),())))),(s4.2.1,(s4.2.2.1,(s4.2.2.2.1,()))))))))))))))))))))) (((),((),((),(0,())))),(s3.2.1,(s3.2.2.1,(s3.2.2.2.1,()))))) ((fg s3.2.2.1.2.2.2.2.length (List.length (s3.2.2.2.1::[])) 24)/\((inK .i64 (s2.1.2.2.1+1))/\(next2 (((),((),((s2.1.2.2.1+1),()))),(s3.2.1,((s3.2.2.1.1,(s3.2.2.1.2.1,(s3.2.2.1.2.2.1,(s3.2.2.1.2.2.2.1,(s3.2.2.1.2.2.2.2++(s3.2.2.2.1::[])))))),()))))))))))))))))))))) (((),((),((),(0,())))),(s2.2.1,((s2.2.2.1.1,((s2.2.2.1.2.1++((((List.getD c.2.1 s1.1.2.2.1.toNat 0) * d.1)+(List.getD d.2.1 s2.1.2.2.1.toNat 0))::[])),((s2.2.2.1.2.2.1++((((List.getD c.2.2.1 s1.1.2.2.1.toNat 0) * d.1)+(List.getD d.2.2.1 s2.1.2.2.1.toNat 0))::[])),s2.2.2.1.2.2.2))),([],()))))))))))))))))))) ((inK .i64 (s1.1.2.2.1+1))/\(next1 (((),((),((s1.1.2.2.1+1),()))),(s2.2.1,(s2.2.2.1,()))))))))))))))))))) (((),((),(0,()))),(s1.2.1,(s1.2.2.1,())))) (K (s1.2.2.1,())))))))))))))))) (((),((),(0,()))),(s.2.1,(s.2.2.1,())))))))))))))))))) (((),((),(0,()))),((0,([],([],([],[])))),(((c.1 * d.1),([],([],([],[])))),())))))
theorem arc (x:bi gr.args) (K:ac×Unit->Prop):evF tab (lkp []) (aw [(16,516),(17,516),(1,6),(9,516),(27,18)]) Try.f139 (aj Try.f139) v6 gr x K=n5 x.1 x.2.1 K:=by kernel_rfl
theorem ag4:okC Try.f139.ntmps (aw [(16,516),(17,516),(1,6),(9,516),(27,18)]) (aj Try.f139)=true:=by kernel_rfl
theorem aq6 (c:ac) (d:ac) (hok:ae (okL gr.args (c,d,()))) (hpre:ae (gr.pre (c,d,()))):n5 c d (fun r=>ta c d r.1):=by
 simp only [gr,okL,T.oks,T.ok,ap,ae,true_and,and_true,implies_true]at hok hpre
 try dsimp only [T.den]at hok
 try dsimp only [T.den]at hpre
 unfold n5 ta
 obtain ⟨Hc,Hd⟩:=hpre
 clear hok
 have c0:=Hc.ob0;have c1:=Hc.ob;have d0:=Hd.ob0;have d1:=Hd.ob
 have cm:=Hc.m;have cl:=Hc.lt;have cc:=Hc.lc;have ci:=Hc.li
 have dm:=Hd.m;have dl:=Hd.lt;have dc:=Hd.lc;have di:=Hd.li
 have hob:=aci c0 c1 d0 d1
 have hmk:=aci (x:=c.2.1.length) (y:=d.2.1.length) (by omega) cm (by omega) dm
 refine ⟨by rw [au];(try dsimp only);omega,?_⟩
 refine ca (fun (s:(brc×brf))=>0<=s.1.2.2.1/\s.1.2.2.1<=c.1/\s.2.2.1.1=c.1 * d.1/\s.2.2.1.2.1=[]/\s.2.2.1.2.2.1=[]/\s.2.2.1.2.2.2.2=[]/\LiB (s.1.2.2.1 * d.1) s.2.2.1.2.2.2.1) (fun (s:(brc×brf))=>(c.1 - s.1.2.2.1).toNat) ?_ ⟨by simp,c0,rfl,rfl,rfl,rfl,⟨by simp,by simp⟩⟩
 rintro ⟨⟨_,_,x,_⟩,o1,⟨u1,u2,u3,u4,u5⟩,_⟩ next ⟨x0,x1,q1,q2,q3,q5,hL⟩ hnx
 intros
 try dsimp only at x0 x1 q1 q2 q3 q5 hL hnx ⊢
 subst q1;subst q2;subst q3;subst q5
 refine bf (fun hx=>?_) (fun hx=>?_)
 ·refine ca (fun (s:(brc×brf))=>0<=s.1.2.2.1/\s.1.2.2.1<=d.1/\s.2.2.1.1=c.1 * d.1/\s.2.2.1.2.1=[]/\s.2.2.1.2.2.1=[]/\s.2.2.1.2.2.2.2=[]/\LiB (x * d.1+s.1.2.2.1) s.2.2.1.2.2.2.1) (fun (s:(brc×brf))=>(d.1 - s.1.2.2.1).toNat) ?_ ⟨by simp,d0,rfl,rfl,rfl,rfl,hL.to (by dsimp only;omega)⟩
  rintro ⟨⟨_,_,y,_⟩,o2,⟨v1,v2,v3,v4,v5⟩,_⟩ next1 ⟨y0,y1,q1,q2,q3,q5,hL2⟩ hn1
  intros
  try dsimp only at y0 y1 q1 q2 q3 q5 hL2 hn1 ⊢
  have hxb:=aci x0 (b:=10000) (a:=20000) (by omega) d0 d1
  have ll:=hL2.l
  refine bf (fun hy=>?_) (fun hy=>?_)
  ·have ic:=Hc.idG x0 hx
   have id:=Hd.idG y0 hy
   have hp:=aci ic.1 ic.2 (y:=d.2.1.length) (by omega) dm
   exact ⟨x0,by omega,by rw [au];(try dsimp only);omega,y0,by omega,by rw [au];(try dsimp only);omega,cw (by simp only [List.length_cons,List.length_nil];omega),by rw [au];(try dsimp only);omega,hn1 _ ⟨by dsimp only;omega,by dsimp only;omega,q1,q2,q3,q5,(hL2.push (by omega) (by omega)).to (by dsimp only;omega)⟩ (by first | omega | (dsimp only;omega))⟩
  ·have e:y=d.1:=by omega
   rw [e]at hL2
   exact ⟨by rw [au];(try dsimp only);omega,hnx _ ⟨by dsimp only;omega,by dsimp only;omega,q1,q2,q3,q5,hL2.to (by dsimp only;rw [aug])⟩ (by first | omega | (dsimp only;omega))⟩
 have ex:x=c.1:=by omega
 rw [ex]at hL
 clear hnx
 refine ca (fun (s:(brc×brf))=>0<=s.1.2.2.1/\s.1.2.2.1<=c.2.1.length/\s.2.2.1.1=c.1 * d.1/\LiB (s.1.2.2.1 * d.2.1.length) s.2.2.1.2.1/\LiB (s.1.2.2.1 * d.2.1.length) s.2.2.1.2.2.1/\s.2.2.1.2.2.2.1=u4/\TbB (s.1.2.2.1 * d.2.1.length) (c.2.1.length * d.2.1.length) 1000000000 s.2.2.1.2.2.2.2) (fun (s:(brc×brf))=>(c.2.1.length - s.1.2.2.1).toNat) ?_ ⟨by simp,by simp,rfl,⟨by simp,by simp⟩,⟨by simp,by simp⟩,rfl,⟨by simp,by simp⟩⟩
 rintro ⟨⟨_,_,a,_⟩,o2,⟨v1,v2,v3,v4,v5⟩,_⟩ next1 ⟨a0,a1,q1,hF,hT,q4,hR⟩ hn1
 intros
 try dsimp only at a0 a1 q1 hF hT q4 hR hn1 ⊢
 refine bf (fun ha=>?_) (fun ha=>?_)
 ·have hab:=aci a0 (a:=20000) (y:=d.2.1.length) (by omega) (by omega) dm
  have fc:=Hc.frG a0 ha
  have tc:=Hc.toG a0 ha
  have rc:=Hc.rowG a0 ha
  have hp1:=aci fc.1 fc.2 d0 d1
  have hp2:=aci tc.1 tc.2 d0 d1
  refine ca (fun (s:(brc×brf))=>0<=s.1.2.2.1/\s.1.2.2.1<=d.2.1.length/\s.2.2.1.1=c.1 * d.1/\LiB (a * d.2.1.length+s.1.2.2.1) s.2.2.1.2.1/\LiB (a * d.2.1.length+s.1.2.2.1) s.2.2.1.2.2.1/\s.2.2.1.2.2.2.1=u4/\TbB (a * d.2.1.length+s.1.2.2.1) (c.2.1.length * d.2.1.length) 1000000000 s.2.2.1.2.2.2.2) (fun (s:(brc×brf))=>(d.2.1.length - s.1.2.2.1).toNat) ?_ ⟨by simp,by simp,q1,hF.to (by dsimp only;omega),hT.to (by dsimp only;omega),q4,hR.to (by dsimp only;omega)⟩
  rintro ⟨⟨_,_,b,_⟩,o3,⟨w1,w2,w3,w4,w5⟩,_⟩ next2 ⟨b0,b1,p1,hF2,hT2,p4,hR2⟩ hn2
  intros
  try dsimp only at b0 b1 p1 hF2 hT2 p4 hR2 hn2 ⊢
  have fl:=hF2.l;have tl:=hT2.l;have rl:=hR2.l
  refine bf (fun hb=>?_) (fun hb=>?_)
  ·have fd:=Hd.frG b0 hb
   have td:=Hd.toG b0 hb
   have rd:=Hd.rowG b0 hb
   refine ⟨a0,ha,by rw [au];(try dsimp only);omega,b0,hb,by rw [au];(try dsimp only);omega,cw (by simp only [List.length_cons,List.length_nil];omega),a0,by omega,by rw [au];(try dsimp only);omega,b0,by omega,by rw [au];(try dsimp only);omega,cw (by simp only [List.length_cons,List.length_nil];omega),?_⟩
   have hF3:=(hF2.push (x:=c.2.1.getD a.toNat 0 * d.1+d.2.1.getD b.toNat 0) (by omega) (by omega)).to (k':=a * d.2.1.length+(b+1)) (by omega)
   have hT3:=(hT2.push (x:=c.2.2.1.getD a.toNat 0 * d.1+d.2.2.1.getD b.toNat 0) (by omega) (by omega)).to (k':=a * d.2.1.length+(b+1)) (by omega)
   generalize w2++[c.2.1.getD a.toNat 0 * d.1+d.2.1.getD b.toNat 0]=w2' at *
   generalize w3++[c.2.2.1.getD a.toNat 0 * d.1+d.2.2.1.getD b.toNat 0]=w3' at *
   refine ca (fun (s:bre)=>0<=s.1.2.2.2.1/\s.1.2.2.2.1<=c.2.1.length/\s.2.2.1=(w1,w2',w3',w4,w5)/\RwB (s.1.2.2.2.1 * d.2.1.length) 1000000000 s.2.2.2.1) (fun (s:bre)=>(c.2.1.length - s.1.2.2.2.1).toNat) ?_ ⟨by simp,by simp,rfl,⟨by simp,by simp⟩⟩
   rintro ⟨⟨_,_,_,f,_⟩,o4,out4,row,_⟩ next3 ⟨f0,f1,p5,hW⟩ hn3
   intros
   try dsimp only at f0 f1 p5 hW hn3 ⊢
   subst p5
   refine bf (fun hf=>?_) (fun hf=>?_)
   ·have hfb:=aci f0 (a:=20000) (y:=d.2.1.length) (by omega) (by omega) dm
    refine ca (fun (s:bre)=>0<=s.1.2.2.2.1/\s.1.2.2.2.1<=d.2.1.length/\s.2.2.1=(w1,w2',w3',w4,w5)/\RwB (f * d.2.1.length+s.1.2.2.2.1) 1000000000 s.2.2.2.1) (fun (s:bre)=>(d.2.1.length - s.1.2.2.2.1).toNat) ?_ ⟨by simp,by simp,rfl,hW.to (by dsimp only;omega)⟩
    rintro ⟨⟨_,_,_,g,_⟩,o5,out5,row5,_⟩ next4 ⟨g0,g1,p6,hW2⟩ hn4
    intros
    try dsimp only at g0 g1 p6 hW2 hn4 ⊢
    subst p6
    have wl:=hW2.l
    refine bf (fun hg=>?_) (fun hg=>?_)
    ·have vc:=Hc.cel a0 ha f0 hf
     have vd:=Hd.cel b0 hb g0 hg
     refine ⟨a0,by omega,f0,by omega,fun _=>⟨by omega,b0⟩,fun _=>⟨by omega,g0⟩,dn (fun (q:bre)=>-1000000000<=q.1.2.2.2.1/\q.1.2.2.2.1<=1000000000/\q.2.2.1=(w1,w2',w3',w4,w5)/\q.2.2.2.1=row5) ?_ (fun k hk=>be (fun hz=>?_) (fun _=>hk _ ⟨by dsimp only;omega,by dsimp only;omega,rfl,rfl⟩))⟩
     ·rintro ⟨⟨_,_,_,h,_⟩,o6,out6,row6,_⟩ ⟨q1,q2,q3,q4⟩
      intros
      try dsimp only at q1 q2 q3 q4 ⊢
      subst q3;subst q4
      exact ⟨cw (by simp only [List.length_cons,List.length_nil];omega),by rw [au];(try dsimp only);omega,hn4 _ ⟨by dsimp only;omega,by dsimp only;omega,rfl,(hW2.push q1 q2).to (by dsimp only;omega)⟩ (by first | omega | (dsimp only;omega))⟩
     ·simp only [Bool.and_eq_true,decide_eq_true_eq]at hz
      have hp:=aci hz.1 vc.2 (y:=d.2.1.length) (by omega) dm
      exact ⟨a0,by omega,f0,by omega,by rw [au];(try dsimp only);omega,b0,by omega,g0,by omega,by rw [au];(try dsimp only);omega,hk _ ⟨by dsimp only;omega,by dsimp only;omega,rfl,rfl⟩⟩
    ·have e:g=d.2.1.length:=by omega
     rw [e]at hW2
     exact ⟨by rw [au];(try dsimp only);omega,hn3 _ ⟨by dsimp only;omega,by dsimp only;omega,rfl,hW2.to (by dsimp only;rw [aug])⟩ (by first | omega | (dsimp only;omega))⟩
   ·have e:f=c.2.1.length:=by omega
    rw [e]at hW
    exact ⟨cw (by simp only [List.length_cons,List.length_nil];omega),by rw [au];(try dsimp only);omega,hn2 _ ⟨by dsimp only;omega,by dsimp only;omega,p1,hF3,hT3,p4,(hR2.push hW).to (by dsimp only;omega)⟩ (by first | omega | (dsimp only;omega))⟩
  ·have e:b=d.2.1.length:=by omega
   rw [e]at hF2 hT2 hR2
   exact ⟨by rw [au];(try dsimp only);omega,hn1 _ ⟨by dsimp only;omega,by dsimp only;omega,p1,hF2.to (by dsimp only;rw [aug]),hT2.to (by dsimp only;rw [aug]),p4,hR2.to (by dsimp only;rw [aug])⟩ (by first | omega | (dsimp only;omega))⟩
 have ea:a=c.2.1.length:=by omega
 rw [ea]at hF hT hR
 have fl:=hF.l;have tl:=hT.l;have rl:=hR.l;have ll:=hL.l
 subst q4
 refine ⟨by omega,by dsimp only;omega,by dsimp only;omega,by dsimp only;omega,by dsimp only;omega,by dsimp only;omega,by dsimp only;omega,hF.e,hT.e,hL.e,fun w hw=>?_⟩
 have h:=hR.e w hw
 exact ⟨by have:=h.l;dsimp only;omega,h.e⟩
theorem ab3 (c:ac) (d:ac):∃ q:ac×Unit,ae (okL gr.args (c,d,()))->ae (gr.pre (c,d,()))->n5 c d (fun r=>r=q)/\ae (okR gr.rt q)/\ta c d q.1:=
 abv (f:=139) (Φ:=lkp []) ba bo (by kernel_rfl) (fn:=Try.f139) (c:=aj Try.f139) (by kernel_rfl) (by kernel_rfl) (by kernel_rfl) gr v6 (aw [(16,516),(17,516),(1,6),(9,516),(27,18)]) (ot (by kernel_rfl)) (by kernel_rfl) (by kernel_rfl) ag4 (by decide) (by kernel_rfl) (fun x K=>n5 x.1 x.2.1 K) arc (fun x r=>ta x.1 x.2.1 r.1) (fun x h1 h2=>aq6 x.1 x.2.1 h1 h2) (c,d,())
def ql (c:ac) (d:ac):ac:=(ab3 c d).choose.1
theorem ard (c:ac) (d:ac) (hok:ae (okL gr.args (c,d,()))) (hpre:ae (gr.pre (c,d,()))):ae (okR gr.rt (ql c d,()))/\ta c d (ql c d):=((ab3 c d).choose_spec hok hpre).2
def s9:Ct:=⟨[bj,bj],[true,true],fun x=>[CgR 20000 x.1,CgR 10000 x.2.1],[(true,ku)],fun x=>((ql x.1 x.2.1),()),false,none⟩
theorem apn (x:bi s9.args) (K:ac×Unit->Prop):evF tab (lkp []) (aw [(16,516),(17,516),(1,6),(9,516),(27,18)]) Try.f139 (aj Try.f139) v6 s9 x K=n5 x.1 x.2.1 K:=by kernel_rfl
theorem afy:dg Try.prog 139 s9:=
 d7 (Φ:=lkp []) ba bo (by kernel_rfl) (fn:=Try.f139) (c:=aj Try.f139) (by kernel_rfl) (by kernel_rfl) (by kernel_rfl) s9 rfl v6 (aw [(16,516),(17,516),(1,6),(9,516),(27,18)]) (by kernel_rfl) (by kernel_rfl) ag4 (by decide) (fun x K=>n5 x.1 x.2.1 K) apn (fun x h1 h2=>((ab3 x.1 x.2.1).choose_spec h1 h2).1)
theorem bps {a b:Int} {c d:ac} (h:CgR a c) (g:CgR b d) (ha:a<=1000000000000) (hb:b<=1000000000000):CgR (a+b) (ip c d):=
 bnd (by simp only [iy,okL,lh,ae,and_true];exact ⟨am2 h ha,am2 g hb⟩) h g ha hb
theorem bkd {c d:ac} (h:CgR 20000 c) (g:CgR 10000 d):CgR 1000000000 (ql c d):=
 (ard c d (by simp only [gr,okL,lh,ae,and_true];exact ⟨am2 h (by omega),am2 g (by omega)⟩) ⟨h,g,trivial⟩).2
def fe:Wt:=⟨(.pt (.fz bp)),[(.int .i64),(.int .i64)],[false,false],fun x y=>[ck x,1<=y.1,y.1<=8,1<=y.2.1,y.2.1<=40],fun x _=>x,[(true,ku)],fun _ _=>dfR _⟩
def xr (s:ah) (objects:Int) (arrows:Int) (z:ah) (r0:ac):Prop:=ck z/\CgR 1000000000 r0/\r0.1<=objects/\(r0.2.1.length:Int)<=40/\(8<=arrows->(r0.2.1.length:Int)<=arrows)
def aai:Ann:=(.s .n (.s (.s .n (.l [(0,(.ad 1000000 [.de])),(6,(.ad 6 [.de])),(7,(.d (.int .i64)))] [(1000000,(.pt (.fz (.p (.sl (.int .u8)) (.p (.int .i64) (.int .u64)))))),(6,(.pt (.p (.fz (.int .i64)) (.p (.sl (.fz (.int .i64))) (.p (.sl (.fz (.int .i64))) (.p (.sl (.fz (.int .i64))) (.sl (.sl (.fz (.int .i64))))))))))] [1,2] (.s .n (.s (.s .n (.s (.s .n (.j [(0,(.ad 1000000 [.de])),(6,(.ad 6 [.de])),(8,(.ad 8 [.de]))] [(1000000,(.pt (.fz (.p (.sl (.int .u8)) (.p (.int .i64) (.int .u64)))))),(6,(.pt (.p (.fz (.int .i64)) (.p (.sl (.fz (.int .i64))) (.p (.sl (.fz (.int .i64))) (.p (.sl (.fz (.int .i64))) (.sl (.sl (.fz (.int .i64)))))))))),(8,(.pt (.p (.fz (.int .i64)) (.p (.sl (.fz (.int .i64))) (.p (.sl (.fz (.int .i64))) (.p (.sl (.fz (.int .i64))) (.sl (.sl (.fz (.int .i64))))))))))] [1,2,7] .n)) (.s (.s .n (.j [(0,(.ad 1000000 [.de])),(6,(.ad 6 [.de])),(8,(.ad 8 [.de]))] [(1000000,(.pt (.fz (.p (.sl (.int .u8)) (.p (.int .i64) (.int .u64)))))),(6,(.pt (.p (.fz (.int .i64)) (.p (.sl (.fz (.int .i64))) (.p (.sl (.fz (.int .i64))) (.p (.sl (.fz (.int .i64))) (.sl (.sl (.fz (.int .i64)))))))))),(8,(.pt (.p (.fz (.int .i64)) (.p (.sl (.fz (.int .i64))) (.p (.sl (.fz (.int .i64))) (.p (.sl (.fz (.int .i64))) (.sl (.sl (.fz (.int .i64))))))))))] [1,2,7] .n)) .n))) .n)))) .n))
def aac:FuncId->Option Ct:=lkp [(79,ez),(137,aio),(107,kr),(140,si),(139,s9),(138,oz)]
def uj (s:ah) (objects:Int) (arrows:Int) (K:ah->(ac×Unit)->Prop):Prop:=(bu (S:=(brc×(brd×(brb×Unit)))) (fun s1=>(fun next=>((inK .i64 s1.1.2.2.1)->((T.ok (.sl (.int .u8)) s1.2.1.1)->((inK .i64 s1.2.1.2.1)->((inK .u64 s1.2.1.2.2)->((inK .i64 s1.2.2.1.1)->((T.ok (.sl (.int .i64)) s1.2.2.1.2.1)->((T.ok (.sl (.int .i64)) s1.2.2.1.2.2.1)->((T.ok (.sl (.int .i64)) s1.2.2.1.2.2.2.1)->((T.ok (.sl (.sl (.int .i64))) s1.2.2.1.2.2.2.2)->(cnd (decide (s1.1.2.2.1 < 12)) ((ck s1.2.1)/\((0<=(ib s1.2.1).2.1)/\(fk (S:=bri) (fun s2=>((T.ok (.sl (.int .u8)) s2.2.1.1)->((inK .i64 s2.2.1.2.1)->((inK .u64 s2.2.1.2.2)->((inK .i64 s2.2.2.1.1)->((T.ok (.sl (.int .i64)) s2.2.2.1.2.1)->((T.ok (.sl (.int .i64)) s2.2.2.1.2.2.1)->((T.ok (.sl (.int .i64)) s2.2.2.1.2.2.2.1)->((T.ok (.sl (.sl (.int .i64))) s2.2.2.1.2.2.2.2)->((inK .i64 s2.2.2.2.1.1)->((T.ok (.sl (.int .i64)) s2.2.2.2.1.2.1)->((T.ok (.sl (.int .i64)) s2.2.2.2.1.2.2.1)->((T.ok (.sl (.int .i64)) s2.2.2.2.1.2.2.2.1)->((T.ok (.sl (.sl (.int .i64))) s2.2.2.2.1.2.2.2.2)->((0<=s2.2.1.2.1)/\(fk (S:=bri) (fun s3=>((T.ok (.sl (.int .u8)) s3.2.1.1)->((inK .i64 s3.2.1.2.1)->((inK .u64 s3.2.1.2.2)->((inK .i64 s3.2.2.1.1)->((T.ok (.sl (.int .i64)) s3.2.2.1.2.1)->((T.ok (.sl (.int .i64)) s3.2.2.1.2.2.1)->((T.ok (.sl (.int .i64)) s3.2.2.1.2.2.2.1)->((T.ok (.sl (.sl (.int .i64))) s3.2.2.1.2.2.2.2)->((inK .i64 s3.2.2.2.1.1)->((T.ok (.sl (.int .i64)) s3.2.2.2.1.2.1)->((T.ok (.sl (.int .i64)) s3.2.2.2.1.2.2.1)->((T.ok (.sl (.int .i64)) s3.2.2.2.1.2.2.2.1)->((T.ok (.sl (.sl (.int .i64))) s3.2.2.2.1.2.2.2.2)->(cnd (((decide (s3.2.2.2.1.1<=objects)) && (decide (((s3.2.2.2.1.2.1.length:Nat):Int)<=arrows))) && ((decide (s3.2.2.2.1.1<=8)) && (decide (((s3.2.2.2.1.2.1.length:Nat):Int)<=40)))) (K s3.2.1 (s3.2.2.2.1,())) ((inK .i64 (s1.1.2.2.1+1))/\(next (((),((),((s1.1.2.2.1+1),()))),(s3.2.1,(s3.2.2.1,())))))))))))))))))))) (fun k=>(cnd ((ab s2.2.1 8) == 0) ((ck (aa s2.2.1 8))/\((CgR 20000 s2.2.2.2.1)/\((CgR 10000 (jb (aa s2.2.1 8)))/\(k (((),((),((),()))),((ib (aa s2.2.1 8)),(s2.2.2.1,((ql s2.2.2.2.1 (jb (aa s2.2.1 8))),())))))))) (k (((),((),((),()))),((aa s2.2.1 8),(s2.2.2.1,(s2.2.2.2.1,()))))))))))))))))))))))) (fun k=>(cnd ((ab (ib s1.2.1) 5) == 0) ((ck (aa (ib s1.2.1) 5))/\((CgR 1000000000000 (jb s1.2.1))/\((CgR 1000000000000 (jb (aa (ib s1.2.1) 5)))/\(k (((),((),((),()))),((ib (aa (ib s1.2.1) 5)),(s1.2.2.1,((ip (jb s1.2.1) (jb (aa (ib s1.2.1) 5))),())))))))) (k (((),((),((),()))),((aa (ib s1.2.1) 5),(s1.2.2.1,((jb s1.2.1),())))))))))) ((RowP (((List.length ((1::[])::[])):Nat):Int) ((1::[])::[]))/\(((List.length ((1::[])::[]))<=8)/\(K s1.2.1 ((dh ((1::[])::[])),())))))))))))))))) (((),((),(0,()))),(s,((0,([],([],([],[])))),()))))
theorem axp (x:fe.o.strip.den) (y:bi fe.as) (K:ah->(ac×Unit)->Prop):pc tab aac (aw [(6,90002),(8,90002)]) Try.f122 (aj Try.f122) aai fe x y K=uj x y.1 y.2.1 K:=by kernel_rfl
theorem ame:okC Try.f122.ntmps (aw [(6,90002),(8,90002)]) (aj Try.f122)=true:=by kernel_rfl
theorem ays (s:ah) (objects:Int) (arrows:Int) (hok:ae (fe.o.strip.oks s)) (hok2:ae (okL fe.as (objects,arrows,()))) (hpre:ae (fe.pre s (objects,arrows,()))):uj s objects arrows (fun z r=>xr s objects arrows z r.1):=by
 simp only [fe,O.strip,okL,T.oks,T.ok,ap,ae,true_and,and_true,implies_true]at hok hok2 hpre
 try dsimp only [T.den]at hok
 try dsimp only [T.den]at hok2
 try dsimp only [T.den]at hpre
 unfold uj xr
 obtain ⟨hS,o1,o8,a1,a40⟩:=hpre
 refine ca (fun (s:(brc×(brd×(brb×Unit))))=>0<=s.1.2.2.1/\s.1.2.2.1<=12/\ck s.2.1) (fun (s:(brc×(brd×(brb×Unit))))=>(12 - s.1.2.2.1).toNat) ?_ ⟨by simp,by simp,hS⟩
 rintro ⟨⟨_,_,t,_⟩,s1,o1',_⟩ next ⟨t0,t1,h1⟩ hnx
 intros
 try dsimp only at t0 t1 h1 hnx ⊢
 refine bf (fun hc=>?_) (fun hc=>?_)
 ·have f1:=atq h1
  have g1:=je (n:=5) f1.1 (by rw [au];(try dsimp only);omega)
  refine ⟨h1,f1.1.2,dn (fun (q:bri)=>ck q.2.1/\CgR 20000 q.2.2.2.1) ?_ ?_⟩
  ·rintro ⟨_,s2,o2,c2,_⟩ ⟨p1,p2⟩
   intros
   try dsimp only at p1 p2 ⊢
   have g2:=je (n:=8) p1 (by rw [au];(try dsimp only);omega)
   refine ⟨p1.2,dn (fun (q:bri)=>ck q.2.1/\CgR 1000000000 q.2.2.2.1) ?_ ?_⟩
   ·rintro ⟨_,s3,o3,c3,_⟩ ⟨r1,r2⟩
    intros
    try dsimp only at r1 r2 ⊢
    refine be (fun h=>?_) (fun _=>?_)
    ·simp only [Bool.and_eq_true,decide_eq_true_eq]at h
     exact ⟨r1,r2,h.1.1,h.2.2,fun _=>h.1.2⟩
    ·exact ⟨by rw [au];(try dsimp only);omega,hnx _ ⟨by dsimp only;omega,by dsimp only;omega,r1⟩ (by dsimp only;omega)⟩
   ·intro k hk
    have f2:=atq g2.1
    exact be (fun _=>⟨g2.1,p2,f2.2,hk _ ⟨f2.1,bkd p2 f2.2⟩⟩) (fun _=>hk _ ⟨g2.1,p2.le (by omega)⟩)
  ·intro k hk
   have f2:=atq g1.1
   exact be (fun _=>⟨g1.1,f1.2.le (by omega),f2.2.le (by omega),hk _ ⟨f2.1,(bps f1.2 f2.2 (by omega) (by omega)).le (by omega)⟩⟩) (fun _=>hk _ ⟨g1.1,f1.2.le (by omega)⟩)
 ·have hR:RowP (([[1]]:List (List Int)).length:Int) [[1]]:=⟨rfl,by decide⟩
  have hp:=bgl (apf (by decide)) hR (by decide)
  have h3:((dh [[1]]).2.1.length:Int)<=8:=hp.2.2
  have h4:(dh [[1]]).1=1:=hp.2.1
  exact ⟨hR,by decide,h1,hp.1.le (by omega),by (try dsimp only);omega,by (try dsimp only);omega,fun _=>by (try dsimp only);omega⟩
theorem abj (s:ah) (objects:Int) (arrows:Int):∃ q:ah×(ac×Unit),ae (fe.o.strip.oks s)->ae (okL fe.as (objects,arrows,()))->ae (fe.pre s (objects,arrows,()))->uj s objects arrows (fun z r=>z=q.1/\r=q.2)/\ae (fe.o.strip.oks q.1)/\ae (okR fe.rt q.2)/\xr s objects arrows q.1 q.2.1:=
 xk (f:=122) (Φ:=aac) (am du (am ahb (am zz (am yi (am afy (am aa4 ba)))))) bo (by kernel_rfl) (fn:=Try.f122) (c:=aj Try.f122) (by kernel_rfl) (by kernel_rfl) (by kernel_rfl) fe aai (aw [(6,90002),(8,90002)]) (ot (by kernel_rfl)) (by kernel_rfl) (by kernel_rfl) ame (by decide) (by kernel_rfl) (by kernel_rfl) bp rfl (by kernel_rfl) (fun x y K=>uj x y.1 y.2.1 K) axp (fun x y z r=>xr x y.1 y.2.1 z r.1) (fun x y h1 h2 h3=>ays x y.1 y.2.1 h1 h2 h3) s (objects,arrows,())
def l6 (s:ah) (objects:Int) (arrows:Int):ah:=(abj s objects arrows).choose.1
def j7 (s:ah) (objects:Int) (arrows:Int):ac:=(abj s objects arrows).choose.2.1
theorem awr (s:ah) (objects:Int) (arrows:Int) (hok:ae (fe.o.strip.oks s)) (hok2:ae (okL fe.as (objects,arrows,()))) (hpre:ae (fe.pre s (objects,arrows,()))):ae (fe.o.strip.oks (l6 s objects arrows))/\ae (okR fe.rt (j7 s objects arrows,()))/\xr s objects arrows (l6 s objects arrows) (j7 s objects arrows):=((abj s objects arrows).choose_spec hok hok2 hpre).2
def vn:Wt:=⟨(.pt (.fz bp)),[(.int .i64),(.int .i64)],[false,false],fun x y=>[ck x,1<=y.1,y.1<=8,1<=y.2.1,y.2.1<=40],fun x y=>(l6 x y.1 y.2.1),[(true,ku)],fun x y=>((j7 x y.1 y.2.1),())⟩
def al6:Ct:=ac8 vn
theorem au2 (x:vn.o.strip.den) (y:bi vn.as) (K:ah->(ac×Unit)->Prop):pc tab aac (aw [(6,90002),(8,90002)]) Try.f122 (aj Try.f122) aai vn x y K=uj x y.1 y.2.1 K:=by kernel_rfl
theorem ajv:dg Try.prog 122 al6:=
 acx (Φ:=aac) (am du (am ahb (am zz (am yi (am afy (am aa4 ba)))))) bo (by kernel_rfl) (fn:=Try.f122) (c:=aj Try.f122) (by kernel_rfl) (by kernel_rfl) (by kernel_rfl) vn aai (aw [(6,90002),(8,90002)]) (by kernel_rfl) (by kernel_rfl) ame (by decide) (by kernel_rfl) (fun x y h1 h2 h3=>(au2 x y _).mpr ((abj x y.1 y.2.1).choose_spec h1 h2 h3).1)
theorem bpd {s:ah} {a b:Int} (h:ck s) (a1:1<=a) (a8:a<=8) (b1:1<=b) (b40:b<=40):ck (l6 s a b)/\CgR 1000000000 (j7 s a b)/\(j7 s a b).1<=a/\((j7 s a b).2.1.length:Int)<=40/\(8<=b->((j7 s a b).2.1.length:Int)<=b):=
 (awr s a b h.1 (by simp only [fe,okL,T.oks,ap,ae,and_true,au];omega) ⟨h,a1,a8,b1,b40,trivial⟩).2.2
def et:Wt:=⟨(.pt (.fz bp)),[(.int .i64),(.int .i64)],[false,false],fun x y=>[ck x,1<=y.1,y.1<=8,1<=y.2.1,y.2.1<=40],fun x _=>x,[(true,(.fz bj))],fun _ _=>dfR _⟩
def xz (s:ah) (objects:Int) (arrows:Int) (z:ah) (r0:ac):Prop:=ck z/\r0.2.1.length<=41
def z8:FuncId->Option Ct:=lkp [(79,ez),(123,amg),(122,al6)]
def ul (s:ah) (objects:Int) (arrows:Int) (K:ah->(ac×Unit)->Prop):Prop:=((ck s)/\((1<=objects)/\((objects<=8)/\((1<=arrows)/\((arrows<=40)/\((0<=(l6 s objects arrows).2.1)/\(cnd ((ab (l6 s objects arrows) 24) == 0) ((ck (aa (l6 s objects arrows) 24))/\((CgR 1000000000 (j7 s objects arrows))/\(K (wd (aa (l6 s objects arrows) 24) (j7 s objects arrows)) ((ut (aa (l6 s objects arrows) 24) (j7 s objects arrows)),())))) (K (aa (l6 s objects arrows) 24) ((j7 s objects arrows),())))))))))
theorem awq (x:et.o.strip.den) (y:bi et.as) (K:ah->(ac×Unit)->Prop):pc tab z8 (aw []) Try.f76 (aj Try.f76) .n et x y K=ul x y.1 y.2.1 K:=by kernel_rfl
theorem amf:okC Try.f76.ntmps (aw []) (aj Try.f76)=true:=by kernel_rfl
theorem ax0 (s:ah) (objects:Int) (arrows:Int) (hok:ae (et.o.strip.oks s)) (hok2:ae (okL et.as (objects,arrows,()))) (hpre:ae (et.pre s (objects,arrows,()))):ul s objects arrows (fun z r=>xz s objects arrows z r.1):=by
 simp only [et,O.strip,okL,T.oks,T.ok,ap,ae,true_and,and_true,implies_true]at hok hok2 hpre
 try dsimp only [T.den]at hok
 try dsimp only [T.den]at hok2
 try dsimp only [T.den]at hpre
 unfold ul xz
 obtain ⟨hS,o1,o8,a1,a40⟩:=hpre
 have h1:=bpd hS o1 o8 a1 a40
 have h2:=je (n:=24) h1.1 (by rw [au];(try dsimp only);omega)
 have h3:=bpr h2.1 (am2 h1.2.1 (by omega)) h1.2.1
 have hm:=h1.2.2.2.1
 exact ⟨hS,o1,o8,a1,a40,h1.1.2,be (fun _=>⟨h2.1,h1.2.1,h3.1,by (try dsimp only);omega⟩) (fun _=>⟨h2.1,by (try dsimp only);omega⟩)⟩
theorem abh (s:ah) (objects:Int) (arrows:Int):∃ q:ah×(ac×Unit),ae (et.o.strip.oks s)->ae (okL et.as (objects,arrows,()))->ae (et.pre s (objects,arrows,()))->ul s objects arrows (fun z r=>z=q.1/\r=q.2)/\ae (et.o.strip.oks q.1)/\ae (okR et.rt q.2)/\xz s objects arrows q.1 q.2.1:=
 xk (f:=76) (Φ:=z8) (am du (am aj7 (am ajv ba))) bo (by kernel_rfl) (fn:=Try.f76) (c:=aj Try.f76) (by kernel_rfl) (by kernel_rfl) (by kernel_rfl) et .n (aw []) (ot (by kernel_rfl)) (by kernel_rfl) (by kernel_rfl) amf (by decide) (by kernel_rfl) (by kernel_rfl) bp rfl (by kernel_rfl) (fun x y K=>ul x y.1 y.2.1 K) awq (fun x y z r=>xz x y.1 y.2.1 z r.1) (fun x y h1 h2 h3=>ax0 x y.1 y.2.1 h1 h2 h3) s (objects,arrows,())
def c9 (s:ah) (objects:Int) (arrows:Int):ah:=(abh s objects arrows).choose.1
def bm (s:ah) (objects:Int) (arrows:Int):ac:=(abh s objects arrows).choose.2.1
theorem awx (s:ah) (objects:Int) (arrows:Int) (hok:ae (et.o.strip.oks s)) (hok2:ae (okL et.as (objects,arrows,()))) (hpre:ae (et.pre s (objects,arrows,()))):ae (et.o.strip.oks (c9 s objects arrows))/\ae (okR et.rt (bm s objects arrows,()))/\xz s objects arrows (c9 s objects arrows) (bm s objects arrows):=((abh s objects arrows).choose_spec hok hok2 hpre).2
def vw:Wt:=⟨(.pt (.fz bp)),[(.int .i64),(.int .i64)],[false,false],fun x y=>[ck x,1<=y.1,y.1<=8,1<=y.2.1,y.2.1<=40],fun x y=>(c9 x y.1 y.2.1),[(true,(.fz bj))],fun x y=>((bm x y.1 y.2.1),())⟩
def al9:Ct:=ac8 vw
theorem avy (x:vw.o.strip.den) (y:bi vw.as) (K:ah->(ac×Unit)->Prop):pc tab z8 (aw []) Try.f76 (aj Try.f76) .n vw x y K=ul x y.1 y.2.1 K:=by kernel_rfl
theorem ajx:dg Try.prog 76 al9:=
 acx (Φ:=z8) (am du (am aj7 (am ajv ba))) bo (by kernel_rfl) (fn:=Try.f76) (c:=aj Try.f76) (by kernel_rfl) (by kernel_rfl) (by kernel_rfl) vw .n (aw []) (by kernel_rfl) (by kernel_rfl) amf (by decide) (by kernel_rfl) (fun x y h1 h2 h3=>(avy x y _).mpr ((abh x y.1 y.2.1).choose_spec h1 h2 h3).1)
theorem bp4 {s:ah} {a b:Int} (h:ck s) (a1:1<=a) (a8:a<=8) (b1:1<=b) (b40:b<=40):ck (c9 s a b)/\(bm s a b).2.1.length<=41/\ae (T.oks bj (bm s a b)):=by
 obtain ⟨_,h1,h2⟩:=awx s a b h.1 (by simp only [et,okL,T.oks,ap,ae,and_true,au];omega) ⟨h,a1,a8,b1,b40,trivial⟩
 exact ⟨h2.1,h2.2,by simpa only [et,okR,lh,ae,and_true,O.strip]using h1⟩
def d3:Wt:=⟨(.pt (.fz bp)),[(.int .i64)],[false],fun x y=>[ck x],fun x _=>x,[(false,(.fz (.int .i64)))],fun _ _=>dfR _⟩
def uv (s:ah) (n:Int) (z:ah) (r0:Int):Prop:=ck z
def w8:FuncId->Option Ct:=lkp [(79,ez),(84,abw)]
def qv (s:ah) (n:Int) (K:ah->(Int×Unit)->Prop):Prop:=((0<=s.2.1)/\(cnd ((ab s 40) == 0) ((ck (aa s 40))/\((1<=(List.length ((-1)::(n::(9223372036854775807::((-9223372036854775808)::[]))))))/\(K (sg (aa s 40) ((-1)::(n::(9223372036854775807::((-9223372036854775808)::[]))))) ((ma (aa s 40) ((-1)::(n::(9223372036854775807::((-9223372036854775808)::[]))))),())))) ((0<=(aa s 40).2.1)/\(K (aa (aa s 40) n) ((ab (aa s 40) n),())))))
theorem atr (x:d3.o.strip.den) (y:bi d3.as) (K:ah->(Int×Unit)->Prop):pc tab w8 (aw []) Try.f77 (aj Try.f77) .n d3 x y K=qv x y.1 K:=by kernel_rfl
theorem aib:okC Try.f77.ntmps (aw []) (aj Try.f77)=true:=by kernel_rfl
theorem asp (s:ah) (n:Int) (hok:ae (d3.o.strip.oks s)) (hok2:ae (okL d3.as (n,()))) (hpre:ae (d3.pre s (n,()))):qv s n (fun z r=>uv s n z r.1):=by
 simp only [d3,O.strip,okL,T.oks,T.ok,ap,ae,true_and,and_true,implies_true]at hok hok2 hpre
 try dsimp only [T.den]at hok
 try dsimp only [T.den]at hok2
 try dsimp only [T.den]at hpre
 unfold qv uv
 have h1:=je (n:=40) hpre (by rw [au];(try dsimp only);omega)
 refine ⟨hpre.2,be (fun hc=>?_) (fun hc=>?_)⟩
 ·exact ⟨h1.1,by simp,(bk3 h1.1 (by simp [T.oks,T.ok,ae,au,fy];have:=au.1 hok2;omega) (by simp)).1⟩
 ·exact ⟨h1.1.2,(je h1.1 hok2).1⟩
theorem yz (s:ah) (n:Int):∃ q:ah×(Int×Unit),ae (d3.o.strip.oks s)->ae (okL d3.as (n,()))->ae (d3.pre s (n,()))->qv s n (fun z r=>z=q.1/\r=q.2)/\ae (d3.o.strip.oks q.1)/\ae (okR d3.rt q.2)/\uv s n q.1 q.2.1:=
 xk (f:=77) (Φ:=w8) (am du (am sf ba)) bo (by kernel_rfl) (fn:=Try.f77) (c:=aj Try.f77) (by kernel_rfl) (by kernel_rfl) (by kernel_rfl) d3 .n (aw []) (ot (by kernel_rfl)) (by kernel_rfl) (by kernel_rfl) aib (by decide) (by kernel_rfl) (by kernel_rfl) bp rfl (by kernel_rfl) (fun x y K=>qv x y.1 K) atr (fun x y z r=>uv x y.1 z r.1) (fun x y h1 h2 h3=>asp x y.1 h1 h2 h3) s (n,())
def gn (s:ah) (n:Int):ah:=(yz s n).choose.1
def fa (s:ah) (n:Int):Int:=(yz s n).choose.2.1
theorem asd (s:ah) (n:Int) (hok:ae (d3.o.strip.oks s)) (hok2:ae (okL d3.as (n,()))) (hpre:ae (d3.pre s (n,()))):ae (d3.o.strip.oks (gn s n))/\ae (okR d3.rt (fa s n,()))/\uv s n (gn s n) (fa s n):=((yz s n).choose_spec hok hok2 hpre).2
def sw:Wt:=⟨(.pt (.fz bp)),[(.int .i64)],[false],fun x y=>[ck x],fun x y=>(gn x y.1),[(false,(.fz (.int .i64)))],fun x y=>((fa x y.1),())⟩
def ai0:Ct:=ac8 sw
theorem arh (x:sw.o.strip.den) (y:bi sw.as) (K:ah->(Int×Unit)->Prop):pc tab w8 (aw []) Try.f77 (aj Try.f77) .n sw x y K=qv x y.1 K:=by kernel_rfl
theorem ag7:dg Try.prog 77 ai0:=
 acx (Φ:=w8) (am du (am sf ba)) bo (by kernel_rfl) (fn:=Try.f77) (c:=aj Try.f77) (by kernel_rfl) (by kernel_rfl) (by kernel_rfl) sw .n (aw []) (by kernel_rfl) (by kernel_rfl) aib (by decide) (by kernel_rfl) (fun x y h1 h2 h3=>(arh x y _).mpr ((yz x y.1).choose_spec h1 h2 h3).1)
theorem blf {s:ah} {n:Int} (h:ck s) (hn:inK .i64 n):ck (gn s n)/\inK .i64 (fa s n):=by
 obtain ⟨_,h1,h2⟩:=asd s n h.1 (by simp only [d3,okL,T.oks,ap,ae,and_true];exact hn) ⟨h,trivial⟩
 exact ⟨h2,h1.1⟩
def mi:Ct:=⟨[(.sl (.int .i64)),(.int .i64),(.int .i64)],[false,false,false],fun x=>[],[(false,(.fz .bool))],fun x=>((decide ((x.1.length:Int)=x.2.1) && bn x.1 x.2.2.1),()),false,none⟩
def abo (list:List Int) (length:Int) (objects:Int) (K:Bool×Unit->Prop):Prop:=(K (((((list.length:Nat):Int) == length) && (bn list objects)),()))
theorem ayh (x:bi mi.args) (K:Bool×Unit->Prop):evF tab (lkp [(42,iz)]) (aw []) Try.f135 (aj Try.f135) .n mi x K=abo x.1 x.2.1 x.2.2.1 K:=by kernel_rfl
theorem axs:okC Try.f135.ntmps (aw []) (aj Try.f135)=true:=by kernel_rfl
theorem ax5 (list:List Int) (length:Int) (objects:Int) (hok:ae (okL mi.args (list,length,objects,()))) (hpre:ae (mi.pre (list,length,objects,()))):abo list length objects (fun r=>r=mi.res (list,length,objects,())):=by
 simp only [mi,okL,T.oks,T.ok,ap,ae,true_and,and_true,implies_true]at hok hpre
 try dsimp only [T.den]at hok
 try dsimp only [T.den]at hpre
 unfold abo
 have:((list.length:Int) == length)=decide ((list.length:Int)=length):=rfl
 simp only [mi,this]
theorem at0:dg Try.prog 135 mi:=
 d7 (Φ:=lkp [(42,iz)]) (am xl ba) bo (by kernel_rfl) (fn:=Try.f135) (c:=aj Try.f135) (by kernel_rfl) (by kernel_rfl) (by kernel_rfl) mi rfl .n (aw []) (by kernel_rfl) (by kernel_rfl) axs (by decide) (fun x K=>abo x.1 x.2.1 x.2.2.1 K) ayh (fun x h1 h2=>ax5 x.1 x.2.1 x.2.2.1 h1 h2)
def kq:Ct:=⟨[bj],[true],fun x=>[],[(false,(.fz .bool))],fun x=>(ace x.1,()),false,none⟩
def ajj:Ann:=(.s .n (.s .n (.s .n (.s .n (.s (.s .n (.l [(4,(.d (.int .i64)))] [] [1,3] .n)) (.s (.s .n (.l [(5,(.d (.int .i64)))] [] [1,3] (.s .n (.s (.s .n (.s .n (.l [(6,(.d (.int .i64)))] [] [1,3,5] (.s .n (.s (.j [] [] [1,3,5,6] .n) .n))))) .n)))) .n))))))
def akc:FuncId->Option Ct:=lkp [(91,my),(42,iz),(135,mi)]
def abb (c:ac) (K:Bool×Unit->Prop):Prop:=(cnd (((((!(inR c.1 0 8)) || (decide (40 < ((c.2.1.length:Nat):Int)))) || (!((decide (((c.2.1.length:Nat):Int)=((c.2.1.length:Nat):Int))) && (bn c.2.1 c.1)))) || (!((decide (((c.2.2.1.length:Nat):Int)=((c.2.1.length:Nat):Int))) && (bn c.2.2.1 c.1)))) || (((c.2.2.2.2.length:Nat):Int) != ((c.2.1.length:Nat):Int))) (K (false,())) (cnd ((((c.2.2.2.1.length:Nat):Int) != c.1) || (!(bn c.2.2.2.1 ((c.2.1.length:Nat):Int)))) (K (false,())) (bu (S:=brl) (fun s=>(fun next=>((inK .i64 s.1.1)->(cnd (decide (s.1.1 < c.1)) ((0<=s.1.1)/\((s.1.1 < ((c.2.2.2.1.length:Nat):Int))/\((0<=(List.getD c.2.2.2.1 s.1.1.toNat 0))/\(((List.getD c.2.2.2.1 s.1.1.toNat 0) < ((c.2.1.length:Nat):Int))/\(((((List.getD c.2.1 (Int.toNat (List.getD c.2.2.2.1 s.1.1.toNat 0)) 0) != s.1.1)=false)->((s.1.1 < ((c.2.2.2.1.length:Nat):Int))/\(0<=s.1.1)))/\(((((List.getD c.2.1 (Int.toNat (List.getD c.2.2.2.1 s.1.1.toNat 0)) 0) != s.1.1)=false)->(((List.getD c.2.2.2.1 s.1.1.toNat 0) < ((c.2.2.1.length:Nat):Int))/\(0<=(List.getD c.2.2.2.1 s.1.1.toNat 0))))/\(cnd (((List.getD c.2.1 (Int.toNat (List.getD c.2.2.2.1 s.1.1.toNat 0)) 0) != s.1.1) || ((List.getD c.2.2.1 (Int.toNat (List.getD c.2.2.2.1 s.1.1.toNat 0)) 0) != s.1.1)) (K (false,())) ((inK .i64 (s.1.1+1))/\(next (((s.1.1+1),()),())))))))))) (bu (S:=brl) (fun s1=>(fun next1=>((inK .i64 s1.1.1)->(cnd (decide (s1.1.1 < ((c.2.1.length:Nat):Int))) ((0<=s1.1.1)/\((s1.1.1 < ((c.2.2.2.2.length:Nat):Int))/\(cnd ((((List.length (List.getD c.2.2.2.2 s1.1.1.toNat [])):Nat):Int) != ((c.2.1.length:Nat):Int)) (K (false,())) (bu (S:=brl) (fun s2=>(fun next2=>((inK .i64 s2.1.1)->(cnd (decide (s2.1.1 < ((c.2.1.length:Nat):Int))) (fk (S:=(Unit×Unit)) (fun s3=>((inK .i64 (s2.1.1+1))/\(next2 (((s2.1.1+1),()),())))) (fun k=>((0<=s1.1.1)/\((s1.1.1 < ((c.2.2.2.2.length:Nat):Int))/\((0<=s2.1.1)/\((s2.1.1 < (((List.length (List.getD c.2.2.2.2 s1.1.1.toNat [])):Nat):Int))/\((0<=s1.1.1)/\((s1.1.1 < ((c.2.2.1.length:Nat):Int))/\((0<=s2.1.1)/\((s2.1.1 < ((c.2.1.length:Nat):Int))/\(cnd ((List.getD c.2.2.1 s1.1.1.toNat 0) != (List.getD c.2.1 s2.1.1.toNat 0)) (cnd ((List.getD (List.getD c.2.2.2.2 s1.1.1.toNat []) s2.1.1.toNat 0) != (-1)) (K (false,())) (k ((),()))) (((((decide ((List.getD (List.getD c.2.2.2.2 s1.1.1.toNat []) s2.1.1.toNat 0) < 0)) || (decide (((c.2.1.length:Nat):Int)<=(List.getD (List.getD c.2.2.2.2 s1.1.1.toNat []) s2.1.1.toNat 0))))=false)->(((List.getD (List.getD c.2.2.2.2 s1.1.1.toNat []) s2.1.1.toNat 0) < ((c.2.1.length:Nat):Int))/\(0<=(List.getD (List.getD c.2.2.2.2 s1.1.1.toNat []) s2.1.1.toNat 0))))/\(((((decide ((List.getD (List.getD c.2.2.2.2 s1.1.1.toNat []) s2.1.1.toNat 0) < 0)) || (decide (((c.2.1.length:Nat):Int)<=(List.getD (List.getD c.2.2.2.2 s1.1.1.toNat []) s2.1.1.toNat 0))))=false)->((s1.1.1 < ((c.2.1.length:Nat):Int))/\(0<=s1.1.1)))/\((((((decide ((List.getD (List.getD c.2.2.2.2 s1.1.1.toNat []) s2.1.1.toNat 0) < 0)) || (decide (((c.2.1.length:Nat):Int)<=(List.getD (List.getD c.2.2.2.2 s1.1.1.toNat []) s2.1.1.toNat 0)))) || ((List.getD c.2.1 (Int.toNat (List.getD (List.getD c.2.2.2.2 s1.1.1.toNat []) s2.1.1.toNat 0)) 0) != (List.getD c.2.1 s1.1.1.toNat 0)))=false)->(((List.getD (List.getD c.2.2.2.2 s1.1.1.toNat []) s2.1.1.toNat 0) < ((c.2.2.1.length:Nat):Int))/\(0<=(List.getD (List.getD c.2.2.2.2 s1.1.1.toNat []) s2.1.1.toNat 0))))/\((((((decide ((List.getD (List.getD c.2.2.2.2 s1.1.1.toNat []) s2.1.1.toNat 0) < 0)) || (decide (((c.2.1.length:Nat):Int)<=(List.getD (List.getD c.2.2.2.2 s1.1.1.toNat []) s2.1.1.toNat 0)))) || ((List.getD c.2.1 (Int.toNat (List.getD (List.getD c.2.2.2.2 s1.1.1.toNat []) s2.1.1.toNat 0)) 0) != (List.getD c.2.1 s1.1.1.toNat 0)))=false)->((s2.1.1 < ((c.2.2.1.length:Nat):Int))/\(0<=s2.1.1)))/\(cnd ((((decide ((List.getD (List.getD c.2.2.2.2 s1.1.1.toNat []) s2.1.1.toNat 0) < 0)) || (decide (((c.2.1.length:Nat):Int)<=(List.getD (List.getD c.2.2.2.2 s1.1.1.toNat []) s2.1.1.toNat 0)))) || ((List.getD c.2.1 (Int.toNat (List.getD (List.getD c.2.2.2.2 s1.1.1.toNat []) s2.1.1.toNat 0)) 0) != (List.getD c.2.1 s1.1.1.toNat 0))) || ((List.getD c.2.2.1 (Int.toNat (List.getD (List.getD c.2.2.2.2 s1.1.1.toNat []) s2.1.1.toNat 0)) 0) != (List.getD c.2.2.1 s2.1.1.toNat 0))) (K (false,())) (k ((),())))))))))))))))))) ((inK .i64 (s1.1.1+1))/\(next1 (((s1.1.1+1),()),()))))))) ((0,()),()))))) (K (true,())))))) ((0,()),())))))) ((0,()),()))))
theorem ayu (x:bi kq.args) (K:Bool×Unit->Prop):evF tab akc (aw [(20,11),(23,33),(9,24)]) Try.f114 (aj Try.f114) ajj kq x K=abb x.1 K:=by kernel_rfl
theorem ayf:okC Try.f114.ntmps (aw [(20,11),(23,33),(9,24)]) (aj Try.f114)=true:=by kernel_rfl
theorem ayx (c:ac) (hok:ae (okL kq.args (c,()))) (hpre:ae (kq.pre (c,()))):abb c (fun r=>r=kq.res (c,())):=by
 simp only [kq,okL,T.oks,T.ok,ap,ae,true_and,and_true,implies_true]at hok hpre
 try dsimp only [T.den]at hok
 try dsimp only [T.den]at hpre
 unfold abb
 have bad:¬ ShapeP c->(false,())=kq.res (c,()):=fun h=>by simp only [kq];rw [aqj h]
 refine be (fun hc=>bad fun h=>?_) (fun hc=>be (fun hd=>bad fun h=>?_) (fun hd=>?_))
 ·have h1:=h.ob;have h2:=h.m;have h3:=h.lt;have h4:=h.fr;have h5:=h.to;have h6:=h.lc;simp only [inR]at hc;grind [cnd,fy,au]
 ·have h1:=h.li;have h2:=h.ids;grind [cnd,fy,au]
 simp only [inR,Bool.or_eq_false_iff,Bool.not_eq_false',Bool.and_eq_true,decide_eq_true_eq,decide_eq_false_iff_not,bne_eq_false_iff_eq]at hc hd
 obtain ⟨⟨⟨⟨hob,hm⟩,_,hfr⟩,hlt,hto⟩,hlc⟩:=hc
 obtain ⟨hli,hids⟩:=hd
 refine nh (n:=c.1) (fun x=>∀ y:Int,0<=y->y < x->c.2.1.getD (c.2.2.2.1.getD y.toNat 0).toNat 0=y/\c.2.2.1.getD (c.2.2.2.1.getD y.toNat 0).toNat 0=y) (by omega) (by intro y h0 h1;omega) ?_ ?_
 ·intro x next h0 h1 hP hn hin
  have hb:=io.1 hids x h0 (by omega)
  try dsimp only
  refine bf (fun _=>⟨h0,by omega,hb.1,hb.2,fun _=>by omega,fun _=>by omega,be (fun hx=>bad fun h=>?_) (fun hx=>?_)⟩) (fun h=>absurd h1 h)
  ·have:=h.idt x h0 (by omega)
   rw [this.1,this.2]at hx
   simp at hx
  ·simp only [Bool.or_eq_false_iff,bne_eq_false_iff_eq]at hx
   refine ⟨by rw [au];(try dsimp only);omega,hn fun y y0 y1=>?_⟩
   by_cases e:y=x
   ·rw [e];exact hx
   ·exact hP y y0 (by omega)
 intro next hidt hin
 refine bf (fun h=>absurd h (by dsimp only;omega)) (fun _=>?_)
 refine nh (n:=c.2.1.length) (fun f=>∀ f':Int,0<=f'->f' < f->(c.2.2.2.2.getD f'.toNat []).length=c.2.1.length/\∀ g:Int,0<=g->g < c.2.1.length->v8 c f' g=true) (by omega) (by intro y h0 h1;omega) ?_ ?_
 ·intro f next h0 h1 hP hn hin
  try dsimp only
  refine bf (fun _=>⟨h0,by omega,be (fun hx=>bad fun h=>?_) (fun hx=>?_)⟩) (fun h=>absurd h1 h)
  ·have:=h.row f h0 (by omega)
   rw [this]at hx
   simp at hx
  simp only [bne_eq_false_iff_eq]at hx
  refine nh (n:=c.2.1.length) (fun g=>∀ g':Int,0<=g'->g' < g->v8 c f g'=true) (by omega) (by intro y h0 h1;omega) ?_ ?_
  ·intro g next3 g0 g1 hP3 hn3 hin3
   try dsimp only
   refine bf (fun _=>?_) (fun h=>absurd g1 h)
   refine dn (fun _=>v8 c f g=true) (fun _ hcell=>⟨by rw [au];(try dsimp only);omega,hn3 fun g' y0 y1=>?_⟩) (fun k hk=>?_)
   ·by_cases e:g'=g
    ·rw [e];exact hcell
    ·exact hP3 g' y0 (by omega)
   have hcell:∀ b,v8 c f g=b->b=false->¬ ShapeP c:=fun b h1 h2 h=>by
    have:=h.cell f g h0 (by omega) g0 (by omega)
    rw [h1,h2]at this;cases this
   have hk':=hk ((),())
   obtain ⟨v,hv⟩:∃ v,(c.2.2.2.2.getD f.toNat []).getD g.toNat 0=v:=⟨_,rfl⟩
   have hR:v8 c f g=aaa c f g v:=by unfold v8 cq;rw [hv]
   rw [hR]at hk'
   rw [hR]at hcell
   rw [hv]
   clear hP3 hn3 hP hn hk hR hv hidt hok
   refine ⟨h0,by omega,g0,by omega,h0,by omega,g0,by omega,be (fun ha=>be (fun hb=>bad ?_) (fun hb=>hk' ?_)) (fun ha=>⟨fun hv=>?_,fun _=>⟨by omega,h0⟩,fun hv=>?_,fun _=>⟨by omega,g0⟩,be (fun hb=>bad ?_) (fun hb=>hk' ?_)⟩)⟩
   ·exact hcell _ rfl (by grind [cnd,fy,au,aaa])
   ·grind [cnd,fy,au,aaa]
   ·simp only [Bool.or_eq_false_iff,decide_eq_false_iff_not]at hv;omega
   ·simp only [Bool.or_eq_false_iff,decide_eq_false_iff_not]at hv;omega
   ·exact hcell _ rfl (by grind [cnd,fy,au,aaa])
   ·grind [cnd,fy,au,aaa]
  ·intro next3 hP3 hin3
   refine bf (fun h=>absurd h (by dsimp only;omega)) (fun _=>⟨by rw [au];(try dsimp only);omega,hn fun f' y0 y1=>?_⟩)
   by_cases e:f'=f
   ·rw [e];exact ⟨by omega,fun g g0 g1=>hP3 g g0 (by omega)⟩
   ·exact hP f' y0 (by omega)
 ·intro next2 hP2 hin2
  refine bf (fun h=>absurd h (by dsimp only;omega)) (fun _=>?_)
  simp only [kq]
  rw [ayr ⟨hob,by omega,by omega,hfr,hto,by omega,hids,by omega,fun x a b=>hidt x a (by omega),fun f a b=>(hP2 f a (by omega)).1,fun f g a b d e=>(hP2 f a (by omega)).2 g d e⟩]
theorem avt:dg Try.prog 114 kq:=
 d7 (Φ:=akc) (am aol (am xl (am at0 ba))) bo (by kernel_rfl) (fn:=Try.f114) (c:=aj Try.f114) (by kernel_rfl) (by kernel_rfl) (by kernel_rfl) kq rfl ajj (aw [(20,11),(23,33),(9,24)]) (by kernel_rfl) (by kernel_rfl) ayf (by decide) (fun x K=>abb x.1 K) ayu (fun x h1 h2=>ayx x.1 h1 h2)
def kw:Ct:=⟨[bj],[true],fun x=>[ShapeP x.1],[(false,(.fz (.int .i64))),(false,(.fz (.int .i64))),(false,(.fz (.int .i64))),(false,(.fz (.int .i64)))],fun x=>((ny x.1).1,(ny x.1).2.1,(ny x.1).2.2.1,(ny x.1).2.2.2,()),false,none⟩
def aiw:Ann:=(.s .n (.s .n (.s (.s .n (.l [(7,(.d (.int .i64)))] [] [1,6] .n)) (.s (.s .n (.l [(8,(.d (.int .i64)))] [] [1,6] (.s .n (.s (.s .n (.l [(9,(.d (.int .i64)))] [] [1,6,8] (.s .n (.s (.j [] [] [1,6,8,9] (.s .n (.s .n (.l [(10,(.d (.int .i64)))] [] [1,6,8,9] .n)))) .n)))) .n)))) .n))))
def aak (c:ac) (K:Int×Int×Int×Int×Unit->Prop):Prop:=(bu (S:=brl) (fun s=>(fun next=>((inK .i64 s.1.1)->(cnd (decide (s.1.1 < ((c.2.1.length:Nat):Int))) ((0<=s.1.1)/\((s.1.1 < ((c.2.1.length:Nat):Int))/\((0<=(List.getD c.2.1 s.1.1.toNat 0))/\(((List.getD c.2.1 s.1.1.toNat 0) < ((c.2.2.2.1.length:Nat):Int))/\((0<=(List.getD c.2.2.2.1 (Int.toNat (List.getD c.2.1 s.1.1.toNat 0)) 0))/\(((List.getD c.2.2.2.1 (Int.toNat (List.getD c.2.1 s.1.1.toNat 0)) 0) < ((c.2.2.2.2.length:Nat):Int))/\((0<=s.1.1)/\((s.1.1 < (((List.length (List.getD c.2.2.2.2 (Int.toNat (List.getD c.2.2.2.1 (Int.toNat (List.getD c.2.1 s.1.1.toNat 0)) 0)) [])):Nat):Int))/\(((((List.getD (List.getD c.2.2.2.2 (Int.toNat (List.getD c.2.2.2.1 (Int.toNat (List.getD c.2.1 s.1.1.toNat 0)) 0)) []) s.1.1.toNat 0) != s.1.1)=false)->((s.1.1 < ((c.2.2.2.2.length:Nat):Int))/\(0<=s.1.1)))/\(((((List.getD (List.getD c.2.2.2.2 (Int.toNat (List.getD c.2.2.2.1 (Int.toNat (List.getD c.2.1 s.1.1.toNat 0)) 0)) []) s.1.1.toNat 0) != s.1.1)=false)->((s.1.1 < ((c.2.2.1.length:Nat):Int))/\(0<=s.1.1)))/\(((((List.getD (List.getD c.2.2.2.2 (Int.toNat (List.getD c.2.2.2.1 (Int.toNat (List.getD c.2.1 s.1.1.toNat 0)) 0)) []) s.1.1.toNat 0) != s.1.1)=false)->(((List.getD c.2.2.1 s.1.1.toNat 0) < ((c.2.2.2.1.length:Nat):Int))/\(0<=(List.getD c.2.2.1 s.1.1.toNat 0))))/\(((((List.getD (List.getD c.2.2.2.2 (Int.toNat (List.getD c.2.2.2.1 (Int.toNat (List.getD c.2.1 s.1.1.toNat 0)) 0)) []) s.1.1.toNat 0) != s.1.1)=false)->(((List.getD c.2.2.2.1 (Int.toNat (List.getD c.2.2.1 s.1.1.toNat 0)) 0) < (((List.length (List.getD c.2.2.2.2 s.1.1.toNat [])):Nat):Int))/\(0<=(List.getD c.2.2.2.1 (Int.toNat (List.getD c.2.2.1 s.1.1.toNat 0)) 0))))/\(cnd (((List.getD (List.getD c.2.2.2.2 (Int.toNat (List.getD c.2.2.2.1 (Int.toNat (List.getD c.2.1 s.1.1.toNat 0)) 0)) []) s.1.1.toNat 0) != s.1.1) || ((List.getD (List.getD c.2.2.2.2 s.1.1.toNat []) (Int.toNat (List.getD c.2.2.2.1 (Int.toNat (List.getD c.2.2.1 s.1.1.toNat 0)) 0)) 0) != s.1.1)) (K (1,(s.1.1,(0,(0,()))))) ((inK .i64 (s.1.1+1))/\(next (((s.1.1+1),()),())))))))))))))))) (bu (S:=brl) (fun s1=>(fun next1=>((inK .i64 s1.1.1)->(cnd (decide (s1.1.1 < ((c.2.1.length:Nat):Int))) (bu (S:=brl) (fun s2=>(fun next2=>((inK .i64 s2.1.1)->(cnd (decide (s2.1.1 < ((c.2.1.length:Nat):Int))) (fk (S:=(Unit×Unit)) (fun s3=>((inK .i64 (s2.1.1+1))/\(next2 (((s2.1.1+1),()),())))) (fun k=>((0<=s1.1.1)/\((s1.1.1 < ((c.2.2.1.length:Nat):Int))/\((0<=s2.1.1)/\((s2.1.1 < ((c.2.1.length:Nat):Int))/\(cnd ((List.getD c.2.2.1 s1.1.1.toNat 0) != (List.getD c.2.1 s2.1.1.toNat 0)) (k ((),())) (bu (S:=brl) (fun s3=>(fun next3=>((inK .i64 s3.1.1)->(cnd (decide (s3.1.1 < ((c.2.1.length:Nat):Int))) ((0<=s2.1.1)/\((s2.1.1 < ((c.2.2.1.length:Nat):Int))/\((0<=s3.1.1)/\((s3.1.1 < ((c.2.1.length:Nat):Int))/\(((((List.getD c.2.2.1 s2.1.1.toNat 0) == (List.getD c.2.1 s3.1.1.toNat 0))=true)->((s1.1.1 < ((c.2.2.2.2.length:Nat):Int))/\(0<=s1.1.1)))/\(((((List.getD c.2.2.1 s2.1.1.toNat 0) == (List.getD c.2.1 s3.1.1.toNat 0))=true)->((s2.1.1 < (((List.length (List.getD c.2.2.2.2 s1.1.1.toNat [])):Nat):Int))/\(0<=s2.1.1)))/\(((((List.getD c.2.2.1 s2.1.1.toNat 0) == (List.getD c.2.1 s3.1.1.toNat 0))=true)->(((List.getD (List.getD c.2.2.2.2 s1.1.1.toNat []) s2.1.1.toNat 0) < ((c.2.2.2.2.length:Nat):Int))/\(0<=(List.getD (List.getD c.2.2.2.2 s1.1.1.toNat []) s2.1.1.toNat 0))))/\(((((List.getD c.2.2.1 s2.1.1.toNat 0) == (List.getD c.2.1 s3.1.1.toNat 0))=true)->((s3.1.1 < (((List.length (List.getD c.2.2.2.2 (Int.toNat (List.getD (List.getD c.2.2.2.2 s1.1.1.toNat []) s2.1.1.toNat 0)) [])):Nat):Int))/\(0<=s3.1.1)))/\(((((List.getD c.2.2.1 s2.1.1.toNat 0) == (List.getD c.2.1 s3.1.1.toNat 0))=true)->((s1.1.1 < ((c.2.2.2.2.length:Nat):Int))/\(0<=s1.1.1)))/\(((((List.getD c.2.2.1 s2.1.1.toNat 0) == (List.getD c.2.1 s3.1.1.toNat 0))=true)->((s2.1.1 < ((c.2.2.2.2.length:Nat):Int))/\(0<=s2.1.1)))/\(((((List.getD c.2.2.1 s2.1.1.toNat 0) == (List.getD c.2.1 s3.1.1.toNat 0))=true)->((s3.1.1 < (((List.length (List.getD c.2.2.2.2 s2.1.1.toNat [])):Nat):Int))/\(0<=s3.1.1)))/\(((((List.getD c.2.2.1 s2.1.1.toNat 0) == (List.getD c.2.1 s3.1.1.toNat 0))=true)->(((List.getD (List.getD c.2.2.2.2 s2.1.1.toNat []) s3.1.1.toNat 0) < (((List.length (List.getD c.2.2.2.2 s1.1.1.toNat [])):Nat):Int))/\(0<=(List.getD (List.getD c.2.2.2.2 s2.1.1.toNat []) s3.1.1.toNat 0))))/\(cnd (((List.getD c.2.2.1 s2.1.1.toNat 0) == (List.getD c.2.1 s3.1.1.toNat 0)) && ((List.getD (List.getD c.2.2.2.2 (Int.toNat (List.getD (List.getD c.2.2.2.2 s1.1.1.toNat []) s2.1.1.toNat 0)) []) s3.1.1.toNat 0) != (List.getD (List.getD c.2.2.2.2 s1.1.1.toNat []) (Int.toNat (List.getD (List.getD c.2.2.2.2 s2.1.1.toNat []) s3.1.1.toNat 0)) 0))) (K (2,(s1.1.1,(s2.1.1,(s3.1.1,()))))) ((inK .i64 (s3.1.1+1))/\(next3 (((s3.1.1+1),()),())))))))))))))))) (k ((),())))))) ((0,()),()))))))))) ((inK .i64 (s1.1.1+1))/\(next1 (((s1.1.1+1),()),()))))))) ((0,()),())) (K (0,(0,(0,(0,()))))))))) ((0,()),())))))) ((0,()),()))
theorem aur (x:bi kw.args) (K:Int×Int×Int×Int×Unit->Prop):evF tab (lkp []) (aw [(17,44),(5,38),(13,11)]) Try.f115 (aj Try.f115) aiw kw x K=aak x.1 K:=by kernel_rfl
theorem au7:okC Try.f115.ntmps (aw [(17,44),(5,38),(13,11)]) (aj Try.f115)=true:=by kernel_rfl
theorem auk (c:ac) (hok:ae (okL kw.args (c,()))) (hpre:ae (kw.pre (c,()))):aak c (fun r=>r=kw.res (c,())):=by
 simp only [kw,okL,T.oks,T.ok,ap,ae,true_and,and_true,implies_true]at hok hpre
 try dsimp only [T.den]at hok
 try dsimp only [T.den]at hpre
 unfold aak
 have S:ShapeP c:=hpre
 have hlt:=S.lt
 have hli:=S.li
 have hlc:=S.lc
 have hmm:=S.m
 have resq:∀ a b d e,ny c=(a,b,d,e)->(a,b,d,e,())=kw.res (c,()):=fun a b d e h=>by simp only [kw,h]
 have hcr:∀ f g:Int,(c.2.2.2.2.getD f.toNat []).getD g.toNat 0=cq c f g:=fun _ _=>rfl
 simp only [hcr]
 refine nh (n:=c.2.1.length) (fun f=>jv (pk c) c.2.1.length 0=jv (pk c) ((c.2.1.length:Int) - f).toNat f) (by omega) afw ?_ ?_
 ·intro f next h0 h1 hP hn hin
  try dsimp only
  obtain ⟨a1,a2,a3,a4⟩:=S.frm h0 h1
  obtain ⟨b1,b2,_,_⟩:=S.idn a1 a2
  obtain ⟨d1,d2,_,_⟩:=S.idn a3 a4
  have r1:=S.row _ b1 b2
  have r2:=S.row f h0 h1
  refine bf (fun _=>⟨h0,h1,by omega,by omega,by omega,by omega,h0,by omega,fun _=>by omega,fun _=>by omega,fun _=>by omega,fun _=>by omega,be (fun hx=>resq _ _ _ _ ?_) (fun hx=>⟨by rw [au];(try dsimp only);omega,hn ?_⟩)⟩) (fun h=>absurd h1 h)
  ·have:pk c f=some (1,f,0,0):=by unfold pk;rw [if_pos];simpa using hx
   unfold ny;rw [hP,aft h1 this];rfl
  ·have:pk c f=none:=by unfold pk;rw [if_neg];simpa using hx
   rw [hP,agk h1 this]
 intro next hI hin
 rw [agf]at hI
 refine bf (fun h=>absurd h (by dsimp only;omega)) (fun _=>?_)
 have hF:ny c=orR (jv (sy c) c.2.1.length 0) (0,0,0,0):=by unfold ny;rw [hI];rfl
 refine nh (n:=c.2.1.length) (fun f=>jv (sy c) c.2.1.length 0=jv (sy c) ((c.2.1.length:Int) - f).toNat f) (by omega) afw ?_ ?_
 ·intro f next h0 h1 hP hn hin
  try dsimp only
  refine bf (fun _=>?_) (fun h=>absurd h1 h)
  have r1:=S.row f h0 h1
  refine nh (n:=c.2.1.length) (fun g=>sy c f=jv (s8 c f) ((c.2.1.length:Int) - g).toNat g) (by omega) afw ?_ ?_
  ·intro g next3 g0 g1 hP3 hn3 hin3
   try dsimp only
   refine bf (fun _=>?_) (fun h=>absurd g1 h)
   have r2:=S.row g g0 g1
   refine dn (fun _=>s8 c f g=none) (fun _ hG=>⟨by rw [au];(try dsimp only);omega,hn3 (by rw [hP3,agk g1 hG])⟩) (fun k hk=>?_)
   have hk':=hk ((),())
   refine ⟨by omega,by omega,by omega,by omega,be (fun hx=>hk' ?_) (fun hx=>?_)⟩
   ·unfold s8;rw [if_neg];simpa using hx
   have hfg:c.2.2.1.getD f.toNat 0=c.2.1.getD g.toNat 0:=by rw [bne_eq_false_iff_eq]at hx;exact hx
   obtain ⟨y1,y2,_,_⟩:=S.yes h0 h1 g0 g1 hfg
   refine nh (n:=c.2.1.length) (fun h=>s8 c f g=jv (v7 c f g) ((c.2.1.length:Int) - h).toNat h) (by omega) (by unfold s8;rw [if_pos hfg];exact afw) ?_ ?_
   ·intro h next4 i0 i1 hP4 hn4 hin4
    try dsimp only
    refine bf (fun _=>?_) (fun h=>absurd i1 h)
    have r3:=S.row _ y1 y2
    have cgh:=S.comp g0 g1 i0 i1
    have ygh:=@ShapeP.yes c S g h g0 g1 i0 i1
    refine ⟨by omega,by omega,by omega,by omega,fun _=>by omega,fun _=>by omega,fun _=>by omega,fun _=>by omega,fun _=>by omega,fun _=>by omega,fun _=>by omega,fun he=>?_,be (fun hx=>resq _ _ _ _ ?_) (fun hx=>⟨by rw [au];(try dsimp only);omega,hn4 ?_⟩)⟩
    ·have:=ygh (by simpa only [beq_iff_eq]using he);omega
    ·have:v7 c f g h=some (2,f,g,h):=by unfold v7;rw [if_pos];simpa using hx
     have e1:s8 c f g=some (2,f,g,h):=by rw [hP4,aft i1 this]
     have e2:sy c f=some (2,f,g,h):=by rw [hP3,aft g1 e1]
     rw [hF,hP,aft h1 e2];rfl
    ·have:v7 c f g h=none:=by unfold v7;rw [if_neg];simpa using hx
     rw [hP4,agk i1 this]
   ·intro next4 hP4 hin4
    rw [agf]at hP4
    exact bf (fun h=>absurd h (by dsimp only;omega)) (fun _=>hk' hP4)
  ·intro next3 hP3 hin3
   rw [agf]at hP3
   exact bf (fun h=>absurd h (by dsimp only;omega)) (fun _=>⟨by rw [au];(try dsimp only);omega,hn (by rw [hP,agk h1 hP3])⟩)
 ·intro next2 hP2 hin2
  rw [agf]at hP2
  refine bf (fun h=>absurd h (by dsimp only;omega)) (fun _=>resq _ _ _ _ ?_)
  rw [hF,hP2];rfl
theorem atg:dg Try.prog 115 kw:=
 d7 (Φ:=lkp []) ba bo (by kernel_rfl) (fn:=Try.f115) (c:=aj Try.f115) (by kernel_rfl) (by kernel_rfl) (by kernel_rfl) kw rfl aiw (aw [(17,44),(5,38),(13,11)]) (by kernel_rfl) (by kernel_rfl) au7 (by decide) (fun x K=>aak x.1 K) aur (fun x h1 h2=>auk x.1 h1 h2)
def md:Ct:=⟨[bj],[true],fun x=>[],[(false,(.fz .bool))],fun x=>(m6 x.1,()),false,none⟩
def aof:FuncId->Option Ct:=lkp [(114,kq),(115,kw)]
def aeg (c:ac) (K:Bool×Unit->Prop):Prop:=(cnd (!(ace c)) (K (false,())) ((ShapeP c)/\(K (((ny c).1 == 0),()))))
theorem bdr (x:bi md.args) (K:Bool×Unit->Prop):evF tab aof (aw []) Try.f56 (aj Try.f56) .n md x K=aeg x.1 K:=by kernel_rfl
theorem bb0:okC Try.f56.ntmps (aw []) (aj Try.f56)=true:=by kernel_rfl
theorem bc2 (c:ac) (hok:ae (okL md.args (c,()))) (hpre:ae (md.pre (c,()))):aeg c (fun r=>r=md.res (c,())):=by
 simp only [md,okL,T.oks,T.ok,ap,ae,true_and,and_true,implies_true]at hok hpre
 try dsimp only [T.den]at hok
 try dsimp only [T.den]at hpre
 unfold aeg
 simp only [md,m6]
 have:=@adq c
 grind [cnd,fy,au]
theorem aco:dg Try.prog 56 md:=
 d7 (Φ:=aof) (am avt (am atg ba)) bo (by kernel_rfl) (fn:=Try.f56) (c:=aj Try.f56) (by kernel_rfl) (by kernel_rfl) (by kernel_rfl) md rfl .n (aw []) (by kernel_rfl) (by kernel_rfl) bb0 (by decide) (fun x K=>aeg x.1 K) bdr (fun x h1 h2=>bc2 x.1 h1 h2)
def ld:Ct:=⟨[bj,(.int .i64)],[true,false],fun x=>[],[(false,(.fz .bool))],fun x=>((decide (0<=x.2.1) && decide (x.2.1 < x.1.1)),()),false,none⟩
def y7 (c:ac) (x:Int) (K:Bool×Unit->Prop):Prop:=(K (((decide (0<=x)) && (decide (x < c.1))),()))
theorem atp (x:bi ld.args) (K:Bool×Unit->Prop):evF tab (lkp []) (aw []) Try.f102 (aj Try.f102) .n ld x K=y7 x.1 x.2.1 K:=by kernel_rfl
theorem ash:okC Try.f102.ntmps (aw []) (aj Try.f102)=true:=by kernel_rfl
theorem ar5 (c:ac) (x:Int) (hok:ae (okL ld.args (c,x,()))) (hpre:ae (ld.pre (c,x,()))):y7 c x (fun r=>r=ld.res (c,x,())):=by
 simp only [ld,okL,T.oks,T.ok,ap,ae,true_and,and_true,implies_true]at hok hpre
 try dsimp only [T.den]at hok
 try dsimp only [T.den]at hpre
 unfold y7
 grind [cnd,fy,au,ld]
theorem ag8:dg Try.prog 102 ld:=
 d7 (Φ:=lkp []) ba bo (by kernel_rfl) (fn:=Try.f102) (c:=aj Try.f102) (by kernel_rfl) (by kernel_rfl) (by kernel_rfl) ld rfl .n (aw []) (by kernel_rfl) (by kernel_rfl) ash (by decide) (fun x K=>y7 x.1 x.2.1 K) atp (fun x h1 h2=>ar5 x.1 x.2.1 h1 h2)
def eu:Wt:=⟨(.pt (.fz bp)),[bj,(.int .i64),(.int .i64)],[true,false,false],fun x y=>[ck x,y.1.2.1.length<=1000000000000,0<=y.2.2.1,y.2.2.1<=5],fun x _=>x,[(false,(.sl (.fz (.int .i64))))],fun _ _=>dfR _⟩
def ya (s:ah) (c:ac) (x:Int) (length:Int) (z:ah) (r0:List Int):Prop:=ck z/\r0.length<=5
def aah:Ann:=(.s .n (.s .n (.s (.s .n (.l [(0,(.ad 1000000 [.de])),(2,(.d (.int .i64))),(9,(.ref 800009 [])),(10,(.d (.int .i64)))] [(1000000,(.pt (.fz (.p (.sl (.int .u8)) (.p (.int .i64) (.int .u64)))))),(800009,(.sl (.fz (.int .i64))))] [5] (.s .n (.s (.s .n (.s (.l [(0,(.ad 1000000 [.de])),(9,(.ref 800009 [])),(11,(.d (.int .i64)))] [(1000000,(.pt (.fz (.p (.sl (.int .u8)) (.p (.int .i64) (.int .u64)))))),(800009,(.sl (.fz (.int .i64))))] [2,5,10] .n) .n)) .n)))) .n)))
def zy:FuncId->Option Ct:=lkp [(79,ez),(56,md),(102,ld)]
def ui (s:ah) (c:ac) (x:Int) (length:Int) (K:ah->brg->Prop):Prop:=((inK .i64 (length+1))/\((0<=s.2.1)/\(bu (S:=((Unit×(Int×brh))×(brd×brg))) (fun s1=>(fun next=>((inK .i64 s1.1.2.1)->((inK .i64 s1.1.2.2.2.1)->((T.ok (.sl (.int .u8)) s1.2.1.1)->((inK .i64 s1.2.1.2.1)->((inK .u64 s1.2.1.2.2)->((T.ok (.sl (.int .i64)) s1.2.2.1)->(cnd (((decide (0 < s1.1.2.2.2.1)) && (m6 c)) && ((decide (0<=s1.1.2.1)) && (decide (s1.1.2.1 < c.1)))) ((0<=s1.2.1.2.1)/\(bu (S:=(brc×(brd×brg))) (fun s2=>(fun next1=>((inK .i64 s2.1.2.2.1)->((T.ok (.sl (.int .u8)) s2.2.1.1)->((inK .i64 s2.2.1.2.1)->((inK .u64 s2.2.1.2.2)->((T.ok (.sl (.int .i64)) s2.2.2.1)->((0<=s2.1.2.2.1)/\((s2.1.2.2.1 < ((c.2.1.length:Nat):Int))/\(cnd ((List.getD c.2.1 s2.1.2.2.1.toNat 0) != s1.1.2.1) ((inK .i64 (s2.1.2.2.1+1))/\((((c.2.1.length:Nat):Int) ≠ 0)/\((inK .i64 (Int.tmod (s2.1.2.2.1+1) ((c.2.1.length:Nat):Int)))/\(next1 (((),((),((Int.tmod (s2.1.2.2.1+1) ((c.2.1.length:Nat):Int)),()))),(s2.2.1,(s2.2.2.1,()))))))) ((fg s2.2.2.1.length (List.length (s2.1.2.2.1::[])) 8)/\((0<=s2.1.2.2.1)/\((s2.1.2.2.1 < ((c.2.2.1.length:Nat):Int))/\((inK .i64 (s1.1.2.2.2.1 - 1))/\(next (((),((List.getD c.2.2.1 s2.1.2.2.1.toNat 0),((),((s1.1.2.2.2.1 - 1),())))),(s2.2.1,((s2.2.2.1++(s2.1.2.2.1::[])),())))))))))))))))))) (((),((),((ab s1.2.1 ((c.2.1.length:Nat):Int)),()))),((aa s1.2.1 ((c.2.1.length:Nat):Int)),(s1.2.2.1,()))))) (K s1.2.1 (s1.2.2.1,()))))))))))) (((),(x,((),((ab s (length+1)),())))),((aa s (length+1)),([],()))))))
theorem ax1 (x:eu.o.strip.den) (y:bi eu.as) (K:ah->brg->Prop):pc tab zy (aw []) Try.f78 (aj Try.f78) aah eu x y K=ui x y.1 y.2.1 y.2.2.1 K:=by kernel_rfl
theorem alx:okC Try.f78.ntmps (aw []) (aj Try.f78)=true:=by kernel_rfl
theorem aya (s:ah) (c:ac) (x:Int) (length:Int) (hok:ae (eu.o.strip.oks s)) (hok2:ae (okL eu.as (c,x,length,()))) (hpre:ae (eu.pre s (c,x,length,()))):ui s c x length (fun z r=>ya s c x length z r.1):=by
 simp only [eu,O.strip,okL,T.oks,T.ok,ap,ae,true_and,and_true,implies_true]at hok hok2 hpre
 try dsimp only [T.den]at hok
 try dsimp only [T.den]at hok2
 try dsimp only [T.den]at hpre
 unfold ui ya
 obtain ⟨hs,hc,h0,h5⟩:=hpre
 have hy:=je (n:=length+1) hs (by rw [au];(try dsimp only);omega)
 have hy2:=hy.2.2.1 (by omega)
 refine ⟨by rw [au];(try dsimp only);omega,hs.2,?_⟩
 refine ca (fun (s:((Unit×(Int×brh))×(brd×brg)))=>0<=s.1.2.2.2.1/\(s.2.2.1.length:Int)+s.1.2.2.2.1<=5/\ck s.2.1) (fun (s:((Unit×(Int×brh))×(brd×brg)))=>s.1.2.2.2.1.toNat) ?_ ⟨hy.2.1,by dsimp only;simp only [List.length_nil];omega,hy.1⟩
 rintro ⟨⟨_,x,_,k,_⟩,s1,out,_⟩ next ⟨k0,k1,hS⟩ hnx
 intros
 try dsimp only at k0 k1 hS hnx ⊢
 refine be (fun hz=>?_) (fun _=>⟨hS,by (try dsimp only);omega⟩)
 simp only [Bool.and_eq_true,decide_eq_true_eq]at hz
 obtain ⟨⟨hk,hcat⟩,x0,x1⟩:=hz
 have S:=bf0 hcat
 have hm:=S.m
 have hlt:=S.lt
 have he:=io.1 S.ids x x0 (by have:=S.li;omega)
 have hx:=(S.idt x x0 x1).1
 generalize c.2.2.2.1.getD x.toNat 0=e at he hx
 have hq:=je (n:=c.2.1.length) hS (by rw [au];(try dsimp only);omega)
 refine ⟨hS.2,?_⟩
 refine ca (fun (s:(brc×(brd×brg)))=>0<=s.1.2.2.1/\s.1.2.2.1 < c.2.1.length/\ck s.2.1/\s.2.2.1=out) (fun (s:(brc×(brd×brg)))=>(if s.1.2.2.1<=e then e - s.1.2.2.1 else e+c.2.1.length - s.1.2.2.1).toNat) ?_ ⟨hq.2.1,hq.2.2.1 (by omega),hq.1,rfl⟩
 rintro ⟨⟨_,_,f,_⟩,s2,out2,_⟩ next1 ⟨f0,f1,hS2,q1⟩ hn1
 intros
 try dsimp only at f0 f1 hS2 q1 hn1 ⊢
 subst q1
 refine ⟨f0,f1,be (fun hne=>?_) (fun heq=>?_)⟩
 ·have hfe:f ≠ e:=by rintro rfl;rw [hx]at hne;simp at hne
  by_cases hw:f+1 < c.2.1.length
  ·have ht:Int.tmod (f+1) (c.2.1.length:Int)=f+1:=Int.tmod_eq_of_lt (by omega) hw
   rw [ht]
   refine ⟨by rw [au];(try dsimp only);omega,by omega,by rw [au];(try dsimp only);omega,hn1 _ ⟨by dsimp only;omega,by dsimp only;omega,hS2,rfl⟩ ?_⟩
   try dsimp only
   split <;> split <;> omega
  ·have hf:f+1=(c.2.1.length:Int):=by omega
   have ht:Int.tmod (f+1) (c.2.1.length:Int)=0:=by rw [hf];exact Int.tmod_self
   rw [ht]
   refine ⟨by rw [au];(try dsimp only);omega,by omega,by rw [au];(try dsimp only);omega,hn1 _ ⟨by dsimp only;omega,by dsimp only;omega,hS2,rfl⟩ ?_⟩
   try dsimp only
   split <;> split <;> omega
 ·exact ⟨cw (by simp only [List.length_cons,List.length_nil];omega),f0,by omega,by rw [au];(try dsimp only);omega,hnx _ ⟨by dsimp only;omega,by dsimp only;simp only [List.length_append,List.length_cons,List.length_nil];omega,hS2⟩ (by dsimp only;omega)⟩
theorem aa7 (s:ah) (c:ac) (x:Int) (length:Int):∃ q:ah×brg,ae (eu.o.strip.oks s)->ae (okL eu.as (c,x,length,()))->ae (eu.pre s (c,x,length,()))->ui s c x length (fun z r=>z=q.1/\r=q.2)/\ae (eu.o.strip.oks q.1)/\ae (okR eu.rt q.2)/\ya s c x length q.1 q.2.1:=
 xk (f:=78) (Φ:=zy) (am du (am aco (am ag8 ba))) bo (by kernel_rfl) (fn:=Try.f78) (c:=aj Try.f78) (by kernel_rfl) (by kernel_rfl) (by kernel_rfl) eu aah (aw []) (ot (by kernel_rfl)) (by kernel_rfl) (by kernel_rfl) alx (by decide) (by kernel_rfl) (by kernel_rfl) bp rfl (by kernel_rfl) (fun x y K=>ui x y.1 y.2.1 y.2.2.1 K) ax1 (fun x y z r=>ya x y.1 y.2.1 y.2.2.1 z r.1) (fun x y h1 h2 h3=>aya x y.1 y.2.1 y.2.2.1 h1 h2 h3) s (c,x,length,())
def mo (s:ah) (c:ac) (x:Int) (length:Int):ah:=(aa7 s c x length).choose.1
def pa (s:ah) (c:ac) (x:Int) (length:Int):List Int:=(aa7 s c x length).choose.2.1
theorem aw4 (s:ah) (c:ac) (x:Int) (length:Int) (hok:ae (eu.o.strip.oks s)) (hok2:ae (okL eu.as (c,x,length,()))) (hpre:ae (eu.pre s (c,x,length,()))):ae (eu.o.strip.oks (mo s c x length))/\ae (okR eu.rt (pa s c x length,()))/\ya s c x length (mo s c x length) (pa s c x length):=((aa7 s c x length).choose_spec hok hok2 hpre).2
def wm:Wt:=⟨(.pt (.fz bp)),[bj,(.int .i64),(.int .i64)],[true,false,false],fun x y=>[ck x,y.1.2.1.length<=1000000000000,0<=y.2.2.1,y.2.2.1<=5],fun x y=>(mo x y.1 y.2.1 y.2.2.1),[(false,(.sl (.fz (.int .i64))))],fun x y=>((pa x y.1 y.2.1 y.2.2.1),())⟩
def amd:Ct:=ac8 wm
theorem avv (x:wm.o.strip.den) (y:bi wm.as) (K:ah->brg->Prop):pc tab zy (aw []) Try.f78 (aj Try.f78) aah wm x y K=ui x y.1 y.2.1 y.2.2.1 K:=by kernel_rfl
theorem aj9:dg Try.prog 78 amd:=
 acx (Φ:=zy) (am du (am aco (am ag8 ba))) bo (by kernel_rfl) (fn:=Try.f78) (c:=aj Try.f78) (by kernel_rfl) (by kernel_rfl) (by kernel_rfl) wm aah (aw []) (by kernel_rfl) (by kernel_rfl) alx (by decide) (by kernel_rfl) (fun x y h1 h2 h3=>(avv x y _).mpr ((aa7 x y.1 y.2.1 y.2.2.1).choose_spec h1 h2 h3).1)
theorem bpb {s:ah} {c:ac} {x n:Int} (hok:ae (okL eu.as (c,x,n,()))) (h:ck s) (hc:c.2.1.length<=1000000000000) (h0:0<=n) (h5:n<=5):ck (mo s c x n)/\(pa s c x n).length<=5:=
 (aw4 s c x n h.1 hok ⟨h,hc,h0,h5,trivial⟩).2.2
def dp:Ct:=⟨[(.sl (.int .u8))],[false],fun x=>[],[(true,(.fz bj)),(false,(.fz (.int .i64))),(false,(.fz (.sl (.int .i64))))],fun _=>dfR _,true,none⟩
def lp (code:List Int) (r0:ac) (r1:Int) (r2:List Int):Prop:=r2.length<=6
def po:Ann:=(.s .n (.s .n (.s .n (.s .n (.s .n (.s (.s .n (.j [(2,(.ad 2 [.de])),(6,(.ad 6 [.de])),(8,(.ref 102000 []))] [(2,(.pt (.p (.fz (.int .i64)) (.p (.sl (.fz (.int .i64))) (.p (.sl (.fz (.int .i64))) (.p (.sl (.fz (.int .i64))) (.sl (.sl (.fz (.int .i64)))))))))),(6,(.pt (.fz (.p (.int .i64) (.p (.sl (.int .i64)) (.p (.sl (.int .i64)) (.p (.sl (.int .i64)) (.sl (.sl (.int .i64)))))))))),(102000,(.sl (.fz (.int .i64))))] [7] .n)) .n))))))
def pm:FuncId->Option Ct:=lkp [(75,uf),(79,ez),(76,al9),(77,ai0),(78,amd)]
def jz (code:List Int) (K:ac×Int×(List Int)×Unit->Prop):Prop:=((ck (ao code))/\(((1:Int)<=8)/\(((8:Int)<=8)/\(((1:Int)<=40)/\(((40:Int)<=40)/\((ck (c9 (ao code) 8 40))/\((ck (gn (c9 (ao code) 8 40) (bm (ao code) 8 40).1))/\(((List.length (bm (ao code) 8 40).2.1)<=1000000000000)/\(((0:Int)<=5)/\(((5:Int)<=5)/\((0<=(mo (gn (c9 (ao code) 8 40) (bm (ao code) 8 40).1) (bm (ao code) 8 40) (fa (c9 (ao code) 8 40) (bm (ao code) 8 40).1) 5).2.1)/\(fk (S:=((Unit×brp)×(brb×(brb×brg)))) (fun s=>((inK .i64 s.2.1.1)->((T.ok (.sl (.int .i64)) s.2.1.2.1)->((T.ok (.sl (.int .i64)) s.2.1.2.2.1)->((T.ok (.sl (.int .i64)) s.2.1.2.2.2.1)->((T.ok (.sl (.sl (.int .i64))) s.2.1.2.2.2.2)->((inK .i64 s.2.2.1.1)->((T.ok (.sl (.int .i64)) s.2.2.1.2.1)->((T.ok (.sl (.int .i64)) s.2.2.1.2.2.1)->((T.ok (.sl (.int .i64)) s.2.2.1.2.2.2.1)->((T.ok (.sl (.sl (.int .i64))) s.2.2.1.2.2.2.2)->((T.ok (.sl (.int .i64)) s.2.2.2.1)->(K (s.2.2.1,((fa (c9 (ao code) 8 40) (bm (ao code) 8 40).1),(s.2.2.2.1,())))))))))))))))) (fun k=>(cnd ((ab (mo (gn (c9 (ao code) 8 40) (bm (ao code) 8 40).1) (bm (ao code) 8 40) (fa (c9 (ao code) 8 40) (bm (ao code) 8 40).1) 5) 12) == 0) ((ck (aa (mo (gn (c9 (ao code) 8 40) (bm (ao code) 8 40).1) (bm (ao code) 8 40) (fa (c9 (ao code) 8 40) (bm (ao code) 8 40).1) 5) 12))/\((fg (List.length (pa (gn (c9 (ao code) 8 40) (bm (ao code) 8 40).1) (bm (ao code) 8 40) (fa (c9 (ao code) 8 40) (bm (ao code) 8 40).1) 5)) (List.length ((fa (aa (mo (gn (c9 (ao code) 8 40) (bm (ao code) 8 40).1) (bm (ao code) 8 40) (fa (c9 (ao code) 8 40) (bm (ao code) 8 40).1) 5) 12) (((List.length (bm (ao code) 8 40).2.1):Nat):Int))::[])) 8)/\(k (((),((),((),()))),((0,([],([],([],[])))),((bm (ao code) 8 40),(((pa (gn (c9 (ao code) 8 40) (bm (ao code) 8 40).1) (bm (ao code) 8 40) (fa (c9 (ao code) 8 40) (bm (ao code) 8 40).1) 5)++((fa (aa (mo (gn (c9 (ao code) 8 40) (bm (ao code) 8 40).1) (bm (ao code) 8 40) (fa (c9 (ao code) 8 40) (bm (ao code) 8 40).1) 5) 12) (((List.length (bm (ao code) 8 40).2.1):Nat):Int))::[])),()))))))) (k (((),((),((),()))),((0,([],([],([],[])))),((bm (ao code) 8 40),((pa (gn (c9 (ao code) 8 40) (bm (ao code) 8 40).1) (bm (ao code) 8 40) (fa (c9 (ao code) 8 40) (bm (ao code) 8 40).1) 5),())))))))))))))))))))
theorem aiy (x:bi dp.args) (K:ac×Int×(List Int)×Unit->Prop):evF tab pm (aw []) Try.f27 (aj Try.f27) po dp x K=jz x.1 K:=by kernel_rfl
theorem aas:okC Try.f27.ntmps (aw []) (aj Try.f27)=true:=by kernel_rfl
theorem ai1 (code:List Int) (hok:ae (okL dp.args (code,()))) (hpre:ae (dp.pre (code,()))):jz code (fun r=>lp code r.1 r.2.1 r.2.2.1):=by
 simp only [dp,okL,T.oks,T.ok,ap,ae,true_and,and_true,implies_true]at hok hpre
 try dsimp only [T.den]at hok
 try dsimp only [T.den]at hpre
 unfold jz lp
 have hF:=bjk (code:=code) (by simpa only [T.oks,T.ok,ap,ae,true_and,and_true,implies_true]using hok)
 clear hok
 generalize ao code=s0 at *
 have h1:=bp4 (a:=8) (b:=40) hF (by omega) (by omega) (by omega) (by omega)
 generalize bm s0 8 40=c at *
 generalize c9 s0 8 40=s1 at *
 obtain ⟨hS1,hm,hok⟩:=h1
 have hc1:inK .i64 c.1:=by simp only [T.oks,ap,ae]at hok;exact hok.1
 have h2:=blf hS1 hc1
 generalize fa s1 c.1=x at *
 generalize gn s1 c.1=s2 at *
 have h3:=bpb (s:=s2) (c:=c) (x:=x) (n:=5) (by simp only [eu,okL,lh,ae,and_true];exact ⟨hok,by simpa only [T.oks,ae,and_true]using h2.2,by simp only [T.oks,ae,and_true,au];omega⟩) h2.1 (by omega) (by omega) (by omega)
 have h4:=je (n:=12) h3.1 (by rw [au];(try dsimp only);omega)
 refine ⟨hF,by decide,by decide,by decide,by decide,hS1,h2.1,by omega,by decide,by decide,h3.1.2,dn (fun (q:((Unit×brp)×(brb×(brb×brg))))=>q.2.2.2.1.length<=6) (fun q hq=>by intros;exact hq) (fun k hk=>be (fun _=>⟨h4.1,cw (by simp only [List.length_cons,List.length_nil];omega),hk _ (by dsimp only;rw [List.length_append];simp only [List.length_cons,List.length_nil];omega)⟩) (fun _=>hk _ (by dsimp only;omega)))⟩
theorem mt (code:List Int):∃ q:ac×Int×(List Int)×Unit,ae (okL dp.args (code,()))->ae (dp.pre (code,()))->jz code (fun r=>r=q)/\ae (okR dp.rt q)/\lp code q.1 q.2.1 q.2.2.1:=
 abv (f:=27) (Φ:=pm) (am aam (am du (am ajx (am ag7 (am aj9 ba))))) bo (by kernel_rfl) (fn:=Try.f27) (c:=aj Try.f27) (by kernel_rfl) (by kernel_rfl) (by kernel_rfl) dp po (aw []) (ot (by kernel_rfl)) (by kernel_rfl) (by kernel_rfl) aas (by decide) (by kernel_rfl) (fun x K=>jz x.1 K) aiy (fun x r=>lp x.1 r.1 r.2.1 r.2.2.1) (fun x h1 h2=>ai1 x.1 h1 h2) (code,())
def az (code:List Int):ac:=(mt code).choose.1
def bg (code:List Int):Int:=(mt code).choose.2.1
def ak (code:List Int):List Int:=(mt code).choose.2.2.1
theorem aic (code:List Int) (hok:ae (okL dp.args (code,()))) (hpre:ae (dp.pre (code,()))):ae (okR dp.rt (az code,bg code,ak code,()))/\lp code (az code) (bg code) (ak code):=((mt code).choose_spec hok hpre).2
def mw:Ct:=⟨[(.sl (.int .u8))],[false],fun x=>[],[(true,(.fz bj)),(false,(.fz (.int .i64))),(false,(.fz (.sl (.int .i64))))],fun x=>((az x.1),(bg x.1),(ak x.1),()),true,none⟩
theorem ahi (x:bi mw.args) (K:ac×Int×(List Int)×Unit->Prop):evF tab pm (aw []) Try.f27 (aj Try.f27) po mw x K=jz x.1 K:=by kernel_rfl
theorem ahh:dg Try.prog 27 mw:=
 d7 (Φ:=pm) (am aam (am du (am ajx (am ag7 (am aj9 ba))))) bo (by kernel_rfl) (fn:=Try.f27) (c:=aj Try.f27) (by kernel_rfl) (by kernel_rfl) (by kernel_rfl) mw rfl po (aw []) (by kernel_rfl) (by kernel_rfl) aas (by decide) (fun x K=>jz x.1 K) ahi (fun x h1 h2=>((mt x.1).choose_spec h1 h2).1)
def lg:Ct:=⟨[bj,(.sl (.int .i64))],[true,false],fun x=>[],[(false,(.fz (.int .i64)))],fun x=>(g7 x.1 x.2.1,()),false,none⟩
def ag6:FuncId->Option Ct:=lkp [(42,iz),(56,md)]
def za (c:ac) (arrows:List Int) (K:Int×Unit->Prop):Prop:=(cnd (!(m6 c)) (K (1,())) (cnd (!(bn arrows ((c.2.1.length:Nat):Int))) (K (2,())) (K (0,()))))
theorem ato (x:bi lg.args) (K:Int×Unit->Prop):evF tab ag6 (aw []) Try.f83 (aj Try.f83) .n lg x K=za x.1 x.2.1 K:=by kernel_rfl
theorem atb:okC Try.f83.ntmps (aw []) (aj Try.f83)=true:=by kernel_rfl
theorem asi (c:ac) (arrows:List Int) (hok:ae (okL lg.args (c,arrows,()))) (hpre:ae (lg.pre (c,arrows,()))):za c arrows (fun r=>r=lg.res (c,arrows,())):=by
 simp only [lg,okL,T.oks,T.ok,ap,ae,true_and,and_true,implies_true]at hok hpre
 try dsimp only [T.den]at hok
 try dsimp only [T.den]at hpre
 unfold za
 simp only [lg,g7]
 grind [cnd,fy,au]
theorem aq8:dg Try.prog 83 lg:=
 d7 (Φ:=ag6) (am xl (am aco ba)) bo (by kernel_rfl) (fn:=Try.f83) (c:=aj Try.f83) (by kernel_rfl) (by kernel_rfl) (by kernel_rfl) lg rfl .n (aw []) (by kernel_rfl) (by kernel_rfl) atb (by decide) (fun x K=>za x.1 x.2.1 K) ato (fun x h1 h2=>asi x.1 x.2.1 h1 h2)
def zc (c:ac) (l:List Int):Int:=if m6 c=true then (if bn l c.1=true then 0 else 2)else 1
def ke:Ct:=⟨[bj,(.sl (.int .i64))],[true,false],fun x=>[],[(false,(.fz (.int .i64)))],fun x=>(zc x.1 x.2.1,()),false,none⟩
def af6:FuncId->Option Ct:=lkp [(42,iz),(56,md)]
def wv (c:ac) (objects:List Int) (K:Int×Unit->Prop):Prop:=(cnd (!(m6 c)) (K (1,())) (cnd (!(bn objects c.1)) (K (2,())) (K (0,()))))
theorem aq2 (x:bi ke.args) (K:Int×Unit->Prop):evF tab af6 (aw []) Try.f82 (aj Try.f82) .n ke x K=wv x.1 x.2.1 K:=by kernel_rfl
theorem aqz:okC Try.f82.ntmps (aw []) (aj Try.f82)=true:=by kernel_rfl
theorem arb (c:ac) (objects:List Int) (hok:ae (okL ke.args (c,objects,()))) (hpre:ae (ke.pre (c,objects,()))):wv c objects (fun r=>r=ke.res (c,objects,())):=by
 simp only [ke,okL,T.oks,T.ok,ap,ae,true_and,and_true,implies_true]at hok hpre
 try dsimp only [T.den]at hok
 try dsimp only [T.den]at hpre
 unfold wv
 simp only [ke,zc]
 grind [cnd,fy,au]
theorem ao8:dg Try.prog 82 ke:=
 d7 (Φ:=af6) (am xl (am aco ba)) bo (by kernel_rfl) (fn:=Try.f82) (c:=aj Try.f82) (by kernel_rfl) (by kernel_rfl) (by kernel_rfl) ke rfl .n (aw []) (by kernel_rfl) (by kernel_rfl) aqz (by decide) (fun x K=>wv x.1 x.2.1 K) aq2 (fun x h1 h2=>arb x.1 x.2.1 h1 h2)
theorem bct {c:ac} {x:Int}:zc c [x]=0<->m6 c=true/\0<=x/\x < c.1:=by
 unfold zc
 simp only [bn,List.all_cons,List.all_nil,inR,Bool.and_true,Bool.and_eq_true,decide_eq_true_eq]
 split
 ·rename_i h
  split
  ·rename_i h2;exact ⟨fun _=>⟨h,h2.1,by omega⟩,fun _=>rfl⟩
  ·rename_i h2;exact ⟨fun h=>by omega,fun h3=>absurd ⟨h3.2.1,by omega⟩ h2⟩
 ·rename_i h;exact ⟨fun h2=>by omega,fun h2=>absurd h2.1 h⟩
def gj:Ct:=⟨[bj,(.int .i64),(.sl (.int .i64))],[true,false,false],fun x=>[],[(false,(.fz (.int .i64))),(false,(.fz (.int .i64)))],fun x=>((ed x.1 x.2.1 x.2.2.1).1,(ed x.1 x.2.1 x.2.2.1).2,()),false,none⟩
def adj:Ann:=(.s .n (.s .n (.s (.s .n (.j [(3,(.ad 3 [.de])),(8,(.d (.int .i64)))] [(3,(.pt (.fz (.p (.int .i64) (.p (.sl (.int .i64)) (.p (.sl (.int .i64)) (.p (.sl (.int .i64)) (.sl (.sl (.int .i64))))))))))] [1,2] .n)) (.s .n (.s .n (.s (.s .n (.l [(9,(.d (.int .i64))),(10,(.d (.int .i64)))] [] [2,3] .n)) .n))))))
def adf:FuncId->Option Ct:=lkp [(83,lg),(82,ke),(61,nk)]
def th (c:ac) (x:Int) (path:List Int) (K:Int×Int×Unit->Prop):Prop:=(fk (S:=(brh×(brb×Unit))) (fun s=>((inK .i64 s.1.2.1)->((inK .i64 s.2.1.1)->((T.ok (.sl (.int .i64)) s.2.1.2.1)->((T.ok (.sl (.int .i64)) s.2.1.2.2.1)->((T.ok (.sl (.int .i64)) s.2.1.2.2.2.1)->((T.ok (.sl (.sl (.int .i64))) s.2.1.2.2.2.2)->(cnd (s.1.2.1 != 0) (K (0,(s.1.2.1,()))) ((0<=x)/\((x < ((s.2.1.2.2.2.1.length:Nat):Int))/\(bu (S:=bry) (fun s1=>(fun next=>((inK .i64 s1.1.1)->((inK .i64 s1.1.2.1)->(cnd (decide (s1.1.2.1 < ((path.length:Nat):Int))) ((0<=s1.1.1)/\((s1.1.1 < ((s.2.1.2.2.1.length:Nat):Int))/\((0<=s1.1.2.1)/\((s1.1.2.1 < ((path.length:Nat):Int))/\((0<=(List.getD path s1.1.2.1.toNat 0))/\(((List.getD path s1.1.2.1.toNat 0) < ((s.2.1.2.1.length:Nat):Int))/\(cnd ((List.getD s.2.1.2.2.1 s1.1.1.toNat 0) != (List.getD s.2.1.2.1 (Int.toNat (List.getD path s1.1.2.1.toNat 0)) 0)) (K (0,(5,()))) ((0<=s1.1.2.1)/\((s1.1.2.1 < ((path.length:Nat):Int))/\((0<=s1.1.1)/\((s1.1.1 < ((s.2.1.2.2.2.2.length:Nat):Int))/\((0<=(List.getD path s1.1.2.1.toNat 0))/\(((List.getD path s1.1.2.1.toNat 0) < (((List.length (List.getD s.2.1.2.2.2.2 s1.1.1.toNat [])):Nat):Int))/\((inK .i64 (s1.1.2.1+1))/\(next (((cq s.2.1 s1.1.1 (List.getD path s1.1.2.1.toNat 0)),((s1.1.2.1+1),())),())))))))))))))))) (K (s1.1.1,(0,())))))))) (((List.getD s.2.1.2.2.2.1 x.toNat 0),(0,())),())))))))))))) (fun k=>(cnd ((zc c (x::[])) == 0) (k (((),((g7 c path),())),(c,()))) (k (((),((zc c (x::[])),())),(c,()))))))
theorem an9 (x:bi gj.args) (K:Int×Int×Unit->Prop):evF tab adf (aw [(10,13),(12,506)]) Try.f29 (aj Try.f29) adj gj x K=th x.1 x.2.1 x.2.2.1 K:=by kernel_rfl
theorem amy:okC Try.f29.ntmps (aw [(10,13),(12,506)]) (aj Try.f29)=true:=by kernel_rfl
theorem ang (c:ac) (x:Int) (path:List Int) (hok:ae (okL gj.args (c,x,path,()))) (hpre:ae (gj.pre (c,x,path,()))):th c x path (fun r=>r=gj.res (c,x,path,())):=by
 simp only [gj,okL,T.oks,T.ok,ap,ae,true_and,and_true,implies_true]at hok hpre
 try dsimp only [T.den]at hok
 try dsimp only [T.den]at hpre
 unfold th
 have hlp:path.length<=140737488355328:=by simp only [fy]at hok;omega
 clear hok hpre
 refine dn (fun (q:(brh×(brb×Unit)))=>q.2.1=c/\q.1.2.1=(if zc c [x]=0 then g7 c path else zc c [x])) (fun q hq _ _ _ _ _ _=>?_) (fun k hk=>be (fun hx=>hk _ ⟨rfl,?_⟩) (fun hx=>hk _ ⟨rfl,?_⟩))
 rotate_left
 ·have h:zc c [x]=0:=by simpa using hx
  try dsimp only;rw [if_pos h]
 ·have h:¬ zc c [x]=0:=by simpa using hx
  try dsimp only;rw [if_neg h]
 obtain ⟨h1,h2⟩:=hq
 rw [h1,h2]
 by_cases ho:zc c [x]=0
 ·rw [if_pos ho]
  obtain ⟨hcat,x0,x1⟩:=bct.1 ho
  refine be (fun hx=>?_) (fun hx=>?_)
  ·have h:¬ g7 c path=0:=by simpa using hx
   simp only [gj,ed];rw [if_neg h]
  have h:g7 c path=0:=by simpa using hx
  obtain ⟨S,hw⟩:=aps h
  have hlc:=S.lc
  have hli:=S.li
  have hlt:=S.lt
  have hmm:=S.m
  have hi:inR x 0 (c.1 - 1)=true:=by simp only [inR,Bool.and_eq_true,decide_eq_true_eq];omega
  have hid:=S.idn x0 x1
  have hp:ed c x path=(if pcR c (c.2.2.2.1.getD x.toNat 0) path < 0 then (0,5)else (pcR c (c.2.2.2.1.getD x.toNat 0) path,0)):=by unfold ed;rw [if_pos h,if_pos hi]
  simp only [gj,hp]
  refine ⟨x0,by omega,?_⟩
  refine ca (fun (s:bry)=>0<=s.1.2.1/\s.1.2.1<=path.length/\0<=s.1.1/\s.1.1 < c.2.1.length/\pcR c (c.2.2.2.1.getD x.toNat 0) path=pcR c s.1.1 (path.drop s.1.2.1.toNat)) (fun (s:bry)=>(path.length - s.1.2.1).toNat) ?_ ⟨by simp,by simp,hid.1,hid.2.1,by simp⟩
  rintro ⟨⟨g,i,_⟩,_⟩ next ⟨h0,h1,h2,h3,h4⟩ hn _ _
  try dsimp only at h0 h1 h2 h3 h4 hn ⊢
  refine bf (fun hc=>?_) (fun hc=>?_)
  ·have hpi:=io.1 hw i h0 hc
   rw [aay path 0 h0 hc,pcR]at h4
   have hr:=S.row g h2 h3
   refine ⟨h2,by omega,h0,hc,hpi.1,hpi.2,be (fun hd=>?_) (fun hd=>?_)⟩
   ·have hne:c.2.2.1.getD g.toNat 0 ≠ c.2.1.getD (path.getD i.toNat 0).toNat 0:=by simpa using hd
    have hm:=S.no h2 h3 hpi.1 hpi.2 hne
    rw [if_pos (by omega)]at h4
    rw [h4];rfl
   ·have he:c.2.2.1.getD g.toNat 0=c.2.1.getD (path.getD i.toNat 0).toNat 0:=by simpa using hd
    have hy:=S.yes h2 h3 hpi.1 hpi.2 he
    rw [if_neg (by omega)]at h4
    exact ⟨h0,hc,h2,by omega,hpi.1,by rw [hr];exact hpi.2,by rw [au];(try dsimp only);omega,hn _ ⟨by dsimp only;omega,by dsimp only;omega,hy.1,hy.2.1,h4⟩ (by dsimp only;omega)⟩
  ·rw [acf path (by omega),pcR]at h4
   rw [h4,if_neg (by omega)]
 ·rw [if_neg ho]
  refine be (fun _=>?_) (fun hx=>absurd (by simpa using hx) ho)
  simp only [gj,ed]
  have hno:=fun h=>ho (bct.2 h)
  by_cases hcat:m6 c=true
  ·have hr:zc c [x]=2:=by
    unfold zc;rw [if_pos hcat,if_neg]
    simp only [bn,List.all_cons,List.all_nil,inR,Bool.and_true,Bool.and_eq_true,decide_eq_true_eq]
    intro h;exact hno ⟨hcat,h.1,by omega⟩
   rw [hr]
   split
   ·rw [if_neg]
    simp only [inR,Bool.and_eq_true,decide_eq_true_eq]
    intro h;exact hno ⟨hcat,h.1,by omega⟩
   ·rename_i h
    unfold g7 at h ⊢
    rw [if_pos hcat]at h ⊢
    split at h
    ·exact absurd rfl h
    ·rw [if_neg (by assumption)]
  ·have h1:zc c [x]=1:=by unfold zc;rw [if_neg hcat]
   have h2:g7 c path=1:=by unfold g7;rw [if_neg hcat]
   rw [h1,h2,if_neg (by omega)]
theorem amj:dg Try.prog 29 gj:=
 d7 (Φ:=adf) (am aq8 (am ao8 (am avm ba))) bo (by kernel_rfl) (fn:=Try.f29) (c:=aj Try.f29) (by kernel_rfl) (by kernel_rfl) (by kernel_rfl) gj rfl adj (aw [(10,13),(12,506)]) (by kernel_rfl) (by kernel_rfl) amy (by decide) (fun x K=>th x.1 x.2.1 x.2.2.1 K) an9 (fun x h1 h2=>ang x.1 x.2.1 x.2.2.1 h1 h2)
end
end Go.Bm
