/- The typed machine that the walks of this claim go by: its data, its operations and the proof that each is sound. No condition. -/
import Derived.Test.YtimfdllgcnabjaaGreatBmFive
import Derived.ScopeJumps
set_option linter.unusedVariables false
set_option linter.unusedSimpArgs false
set_option linter.unusedSectionVars false
namespace Go.Bm
open Go.RowKit
abbrev wy:=@List.replicate_succ'
abbrev zn:=@List.filter_append
abbrev oy:=@List.filter_cons
abbrev CB:=@List.filter_nil
abbrev wz:=@List.length_filter_le
abbrev CC:=@List.mem_or_eq_of_mem_set
abbrev jt:Type:=Int->Bool
variable {B:Tab}{Im:aT}{M:Mem}{P:cX}{R R' S α:Type}{a:Act}{body:Me}{c:jv}{env:Env}{f:fL}{fn:Func}{i n:Int}{l:aA}{m:Nat}{p:jt}{Φ:du}
def Tri(X:(R->Prop)->Prop):Prop:=(∀K,¬X K)\/(∀K,X K)\/∃r,∀K,X K<->K r
theorem Tri.no:Tri (λ_:R->Prop=>False):=.inl λ_ h=>h
theorem Tri.sel(r:R):Tri (λK:R->Prop=>K r):=.inr (.inr ⟨r,λ_=>jQ⟩)
theorem Tri.bind{X:(R->Prop)->Prop}(h:Tri X){F:(R'->Prop)->R->Prop}(hF:∀r,Tri (λK=>F K r)):Tri (λK=>X (F K)):=by
 rcases h with h|h|⟨r,h⟩
 ·exact .inl λK=>h _
 ·exact .inr (.inl λK=>h _)
 ·have:(λK=>X (F K))=(λK=>F K r):=funext λK=>propext (h _);rw[this];exact hF r
theorem Tri.mono{X:(R->Prop)->Prop}(h:Tri X){K K':R->Prop}(hk:∀r,K r->K' r)(hx:X K):X K':=by
 rcases h with h|h|⟨r,h⟩
 ·exact (h _ hx).elim
 ·exact h _
 ·exact (h _).2 (hk _ ((h _).1 hx))
theorem Tri.conj{X:(R->Prop)->Prop}(h:Tri X):(l:nx)->Tri (λK=>conj l (X K))
 |[]=>h
 |p::l=>by
  by_cases hp:p
  ·have:(λK=>Bm.conj (p::l) (X K))=(λK=>Bm.conj l (X K)):=funext λK=>propext ⟨λh=>h.2,λh=>⟨hp,h⟩⟩;rw[this];exact Tri.conj h l
  ·exact .inl λK hk=>hp hk.1
theorem Tri.imp{X:(R->Prop)->Prop}(h:Tri X)(g:Prop)(l:nx):Tri (λK=>imp g l (X K)):=by
 cases l with
 |nil=>exact h
 |cons p l=>
  by_cases hp:g->Bm.conj l p
  ·have:(λK=>Bm.imp g (p::l) (X K))=X:=funext λK=>propext ⟨λh=>h.2,λh=>⟨hp,h⟩⟩;rw[this];exact h
  ·exact .inl λK hk=>hp hk.1
theorem Tri.imps{X:(R->Prop)->Prop}(h:Tri X):(l:nx)->Tri (λK=>imps l (X K))
 |[]=>h
 |p::l=>by
  by_cases hp:p
  ·have:(λK=>Bm.imps (p::l) (X K))=(λK=>Bm.imps l (X K)):=funext λK=>propext ⟨λh=>h hp,λh _=>h⟩;rw[this];exact Tri.imps h l
  ·exact .inr (.inl λK hk=>absurd hk hp)
theorem Tri.cnd{X Y:(R->Prop)->Prop}(hx:Tri X)(hy:Tri Y)(b:bo):Tri (λK=>cnd b (X K) (Y K)):=by
 cases b with
 |true=>have:(λK=>Bm.cnd true (X K) (Y K))=X:=funext λK=>propext ⟨λh=>h.1 rfl,λh=>⟨λ_=>h,λh=>nomatch h⟩⟩;rw[this];exact hx
 |false=>have:(λK=>Bm.cnd false (X K) (Y K))=Y:=funext λK=>propext ⟨λh=>h.2 rfl,λh=>⟨λh=>(nomatch h),λ_=>h⟩⟩;rw[this];exact hy
theorem Tri.bif{X Y:(R->Prop)->Prop}(hx:Tri X)(hy:Tri Y)(b:bo):Tri (λK=>bif b then X K else Y K):=by
 cases b with
 |true=>exact hx
 |false=>exact hy
theorem Jr{S:Type}(body:(R->Prop)->S->(S->Prop)->Prop)(h:∀s,Tri (λP:(S ⊕ R)->Prop=>body (λr=>P (.inr r)) s (λs'=>P (.inl s')))):∀(n:Nat)(s:S),Tri (λK=>jk (body K) n s)
 |0,s=>Tri.no
 |n+1,s=>(h s).bind (F:=λK p=>match p with|.inl s'=>jk (body K) n s'|.inr r=>K r) (λp=>by
   cases p with
   |inl s'=>exact Jr body h n s'
   |inr r=>exact Tri.sel r)
theorem Rq{S:Type}(body:(R->Prop)->S->(S->Prop)->Prop)(h:∀s,Tri (λP:(S ⊕ R)->Prop=>body (λr=>P (.inr r)) s (λs'=>P (.inl s'))))(K:R->Prop):∀(n:Nat)(s:S),jk (body K) n s->jk (body K) (n+1) s
 |0,s,hi=>hi.elim
 |n+1,s,hi=>(h s).mono (K:=λp=>match p with|.inl s'=>jk (body K) n s'|.inr r=>K r) (K':=λp=>match p with|.inl s'=>jk (body K) (n+1) s'|.inr r=>K r) (λp hp=>by
   cases p with
   |inl s'=>exact Rq body h K n s' hp
   |inr r=>exact hp) hi
theorem QX(body:(R->Prop)->S->(S->Prop)->Prop)(h:∀s,Tri (λP:(S ⊕ R)->Prop=>body (λr=>P (.inr r)) s (λs'=>P (.inl s'))))(K:R->Prop)(s:S){n:Nat}(hnm:n<=m)(hi:jk (body K) n s):jk (body K) m s:=by
 induction hnm with
 |refl=>exact hi
 |step _ ih=>exact Rq body h K _ s ih
theorem O_(body:(R->Prop)->S->(S->Prop)->Prop)(h:∀s,Tri (λP:(S ⊕ R)->Prop=>body (λr=>P (.inr r)) s (λs'=>P (.inl s'))))(s:S):Tri (λK=>aK (body K) s):=by
 by_cases hv:∃n,∀K,jk (body K) n s
 ·obtain⟨n,hn⟩:=hv;exact .inr (.inl λK=>⟨n,hn K⟩)
 by_cases hs:∃n r,∀K,jk (body K) n s<->K r
 ·obtain⟨n,r,hn⟩:=hs;refine .inr (.inr ⟨r,λK=>⟨λ⟨m,hm⟩=>?_,λhk=>⟨n,(hn K).2 hk⟩⟩⟩);have h1:=QX body h K s (Nat.le_max_left m n) hm;have h2:=QX body h (λx=>x=r) s (Nat.le_max_right m n) ((hn _).2 rfl);rcases Jr body h (max m n) s with h3|h3|⟨r',h3⟩
  ·exact (h3 _ h1).elim
  ·exact (hv ⟨_,h3⟩).elim
  ·have:r'=r:=(h3 (λx=>x=r)).1 h2;subst this;exact (h3 K).1 h1
 ·refine .inl λK ⟨m,hm⟩=>?_;rcases Jr body h m s with h3|h3|⟨r',h3⟩
  ·exact h3 _ hm
  ·exact hv ⟨_,h3⟩
  ·exact hs ⟨m,r',h3⟩
abbrev EM:=Env×Mem
abbrev EX:=Ex×Env×Mem
theorem EC(all:bL):(ops:bL)->(Φ:du)->(env:Env)->(M:Mem)->Tri (λK:EM->Prop=>twG B Φ all ops env M (λenv M=>K (env,M)))
 |[],Φ,env,M=>Tri.sel (env,M)
 |o::rest,Φ,env,M=>by
  simp only[twG];split
  ·exact Tri.bif Tri.no ((EC all rest Φ _ _).conj _) _
  ·split
   ·exact Tri.bif ((EC all rest Φ _ _).imp _ _) Tri.no _
   ·exact Tri.no
theorem JP(all tl:bL):(ops:bL)->(env:Env)->(M:Mem)->Tri (λK:Env->Prop=>dwG B Φ all tl ops env M K)
 |[],env,M=>Tri.sel env
 |o::rest,env,M=>by
  simp only[dwG];split
  ·exact Tri.bif ((JP all tl rest _ _).conj _) Tri.no _
  ·split
   ·exact Tri.bif ((JP all tl rest _ _).imp _ _) Tri.no _
   ·exact Tri.no
theorem ada(all:bL):(ops:bL)->(env:Env)->(M:Mem)->Tri (λK:EM->Prop=>twS B Φ all ops env M (λenv M=>K (env,M))):=λ_ _ _=>Tri.no
theorem Tri.ifP{X Y:(R->Prop)->Prop}(hx:Tri X)(hy:Tri Y)(p:Prop):Tri (λK=>ifP p (X K) (Y K)):=by
 by_cases hp:p
 ·have:(λK=>Bm.ifP p (X K) (Y K))=X:=funext λK=>propext ⟨λh=>h.1 hp,λh=>⟨λ_=>h,λh=>absurd hp h⟩⟩;rw[this];exact hx
 ·have:(λK=>Bm.ifP p (X K) (Y K))=Y:=funext λK=>propext ⟨λh=>h.2 hp,λh=>⟨λh=>absurd h hp,λ_=>h⟩⟩;rw[this];exact hy
theorem AR(all:bL):(ops:bL)->(env:Env)->(M:Mem)->Tri (λK:EM->Prop=>twQ B Φ all ops env M (λenv M=>K (env,M)))
 |[],env,M=>Tri.sel (env,M)
 |o::rest,env,M=>by
  simp only[twQ];split
  ·exact Tri.bif Tri.no ((AR all rest _ _).conj _) _
  ·split
   ·exact Tri.bif (Tri.bif ((AR all rest _ _).imp _ _) (Tri.bif Tri.no (Tri.ifP ((AR all rest _ _).conj _) (AR all rest _ _) _) _) _) Tri.no _
   ·exact Tri.no
theorem Fg:(ops:bL)->(env:Env)->(X:Mem)->Tri (λK:EM->Prop=>bx B Φ ops env X (λenv M=>K (env,M)))
 |[],env,X=>Tri.sel (env,X)
 |o::r,env,X=>by
  simp only[bx];split
  ·unfold bxA;exact Tri.bif (Fg r _ _) Tri.no _
  ·unfold bxS;split
   ·refine Tri.bif ?_ Tri.no _;split
    ·exact Fg r _ _
    ·exact Tri.no
   ·exact Tri.no
  ·unfold bxP;refine Tri.bif ?_ Tri.no _;split
   ·exact (Fg r _ _).conj _
   ·exact Tri.no
  ·exact Tri.no
theorem Bq(ks as:aZ)(M0:Mem):(D:gj)->(ops:bL)->(env:Env)->(X:Mem)->Tri (λK:EM->Prop=>hx D ks as B Φ M0 ops env X (λenv M=>K (env,M)))
 |D,[],env,X=>Tri.sel (env,X)
 |D,o::r,env,X=>by
  simp only[hx];split
  ·refine Tri.bif ?_ Tri.no _;exact Tri.bif ((Bq ks as M0 (qW D) r _ _).conj _) Tri.no _
  ·exact Tri.no
theorem SG(ss:Shs)(os:Obs)(ks:aZ)(env:Env)(s:gP ss×eO os):Tri (λK:EX->Prop=>onK ss os ks env (λe env M=>K (e,env,M)) s):=Tri.imps (Tri.imps (Tri.sel (Ex.nm,_,_)) _) _
theorem x_(ss:Shs)(os:Obs)(env:Env)(M:Mem)(F:(R->Prop)->gP ss×eO os->Prop)(hF:∀s,Tri (λK=>F K s)):Tri (λK=>BH ss os env M (F K)):=by
 unfold BH;split
 ·exact hF _
 ·exact Tri.no
theorem Ei(ss:Shs)(os:Obs)(F:(R->Prop)->gP ss×eO os->Prop)(hF:∀s,Tri (λK=>F K s))(G:(R->Prop)->EX->Prop)(hG:∀p,Tri (λK=>G K p)):(p:EX)->Tri (λK=>jG ss os (F K) (λe env M=>G K (e,env,M)) p.1 p.2.1 p.2.2)
 |(.nm,env,M)=>x_ ss os env M F hF
 |(.ex id,env,M)=>hG (.ex id,env,M)
 |(.rt,env,M)=>hG (.rt,env,M)
 |(.go l,env,M)=>hG (.go l,env,M)
theorem ip(cut:ju)(hno:∀i,Nat.beq (cut i) 999998=false):(c:jv)->(A:Ann)->(env:Env)->(M:Mem)->Tri (λK:EX->Prop=>ev B Φ cut c A (λe env M=>K (e,env,M)) env M)
 |.skip,_,env,M=>Tri.sel (Ex.nm,env,M)
 |.ret,_,env,M=>Tri.sel (Ex.rt,env,M)
 |.exit id,_,env,M=>Tri.sel (Ex.ex id,env,M)
 |.goto l,_,env,M=>Tri.sel (Ex.go l,env,M)
 |.label _,_,env,M=>Tri.sel (Ex.nm,env,M)
 |.scope c,A,env,M=>by
  simp only[ev];refine (ip cut hno c A env M).bind (F:=λK p=>scpK (λe env M=>K (e,env,M)) p.1 p.2.1 p.2.2) (λp=>?_);obtain⟨e,env',M'⟩:=p
  cases e with
  |nm|ex _|rt=>exact Tri.sel _
  |go _=>exact Tri.no
 |.seq x y,.j ss os ks A,env,M=>by
  simp only[ev];refine Tri.bif ?_ Tri.no _
  have hs:∀p:EX,Tri (λK:EX->Prop=>me (λenv M=>ev B Φ cut y A.snd (λe env M=>K (e,env,M)) env M) (λe env M=>K (e,env,M)) p.1 p.2.1 p.2.2):=λp=>by
   obtain⟨e,env',M'⟩:=p
   cases e with
   |nm=>exact ip cut hno y A.snd env' M'
   |ex _|rt|go _=>exact Tri.sel _
  have hj:=λp=>Ei (R:=EX) ss os (λK=>onK ss os ks env (me (λenv M=>ev B Φ cut y A.snd (λe env M=>K (e,env,M)) env M) (λe env M=>K (e,env,M)))) (λs=>Tri.imps (Tri.imps (hs (Ex.nm,_,_)) _) _) (λK p=>me (λenv M=>ev B Φ cut y A.snd (λe env M=>K (e,env,M)) env M) (λe env M=>K (e,env,M)) p.1 p.2.1 p.2.2) hs p;exact (ip cut hno x A.fst env M).bind (F:=λK p=>jG ss os (onK ss os ks env (me (λenv M=>ev B Φ cut y A.snd (λe env M=>K (e,env,M)) env M) (λe env M=>K (e,env,M)))) (me (λenv M=>ev B Φ cut y A.snd (λe env M=>K (e,env,M)) env M) (λe env M=>K (e,env,M))) p.1 p.2.1 p.2.2) hj
 |.seq x y,.n,env,M=>by
  simp only[ev];refine (ip cut hno x _ env M).bind (F:=λK p=>me (λenv M=>ev B Φ cut y _ (λe env M=>K (e,env,M)) env M) (λe env M=>K (e,env,M)) p.1 p.2.1 p.2.2) (λp=>?_);obtain⟨e,env',M'⟩:=p
  cases e with
  |nm=>exact ip cut hno y _ env' M'
  |ex _|rt|go _=>exact Tri.sel _
 |.seq x y,.s a b,env,M=>by
  simp only[ev];refine (ip cut hno x _ env M).bind (F:=λK p=>me (λenv M=>ev B Φ cut y _ (λe env M=>K (e,env,M)) env M) (λe env M=>K (e,env,M)) p.1 p.2.1 p.2.2) (λp=>?_);obtain⟨e,env',M'⟩:=p
  cases e with
  |nm=>exact ip cut hno y _ env' M'
  |ex _|rt|go _=>exact Tri.sel _
 |.seq x y,.l a b d f,env,M=>by
  simp only[ev];refine (ip cut hno x _ env M).bind (F:=λK p=>me (λenv M=>ev B Φ cut y _ (λe env M=>K (e,env,M)) env M) (λe env M=>K (e,env,M)) p.1 p.2.1 p.2.2) (λp=>?_);obtain⟨e,env',M'⟩:=p
  cases e with
  |nm=>exact ip cut hno y _ env' M'
  |ex _|rt|go _=>exact Tri.sel _
 |.region id ops draw,_,env,M=>by
  have hK:∀p:EM,Tri (λK:EX->Prop=>K (Ex.nm,clr p.1,p.2)):=λp=>Tri.sel _;have hT:∀(all:bL)(l:bL)(env:Env)(M:Mem),Tri (λK:EX->Prop=>twG B Φ all l env M (λenv M=>K (Ex.nm,clr env,M))):=λall l env M=>(EC all l Φ env M).bind (F:=λK p=>K (Ex.nm,clr p.1,p.2)) hK;have hH:∀(D:gj)(M:Mem)(all l1 l2:bL)(env:Env),Tri (λK:EX->Prop=>hx D [] [] B Φ M l1 env [] (λenv X=>bif nogd env then twG B Φ all l2 env (ap X M) (λenv M=>K (Ex.nm,clr env,M))else False)):=λD M all l1 l2 env=>(Bq [] [] M D l1 env []).bind (F:=λK p=>bif nogd p.1 then twG B Φ all l2 p.1 (ap p.2 M) (λenv M=>K (Ex.nm,clr env,M))else False) (λp=>Tri.bif (hT _ _ _ _) Tri.no _);simp only[ev]
  cases draw with
  |false=>refine Tri.bif (Tri.bif ((AR (toL ops) (toL ops) env M).bind (F:=λK p=>K (.nm,clr p.1,p.2)) hK) Tri.no _) (Tri.bif ?_ (Tri.bif (hT _ _ _ _) Tri.no _) _) _;exact (ada (toL ops) (toL ops) env M).bind (F:=λK p=>K (Ex.nm,clr p.1,p.2)) hK
  |true=>
   rw[hno id];simp only[bc];refine Tri.bif ?_ (Tri.bif ?_ (Tri.bif ?_ (Tri.bif ?_ (Tri.bif ?_ ?_ _) _) _) _) _
   ·exact (Fg (toL ops) _ []).bind (F:=λK p=>K (Ex.nm,clr p.1,ap p.2 _)) (λp=>Tri.sel _)
   ·exact Tri.bif ((Bq (Gk (cut id)) [] M _ _ env []).bind (F:=λK p=>bif nob (nogd p.1) (lw (Gk (cut id)) [] B Φ (lZ (dp (hrC (cut id)) (toL ops)) (mC (cut id))) (lV (dp (hrC (cut id)) (toL ops)) (mC (cut id))) (fe (mC (cut id)) (dp (hrC (cut id)) (toL ops))) p.1 (ap p.2 M))then twG B Φ (dp (hrC (cut id)) (toL ops)) (fe (mC (cut id)) (dp (hrC (cut id)) (toL ops))) p.1 (ap p.2 M) (λenv M=>K (Ex.nm,clr env,M))else False) (λp=>Tri.bif (hT _ _ _ _) Tri.no _)) Tri.no _
   ·generalize (bif Nat.ble 5000 (cut id)then xL env (toL ops)else [])=as;generalize (bif Gq (cut id)then jf [] (tu env (toL ops)) M env else (env,M))=q;obtain⟨env1,M1⟩:=q;exact Tri.bif ((Bq [] as M1 _ _ env1 []).bind (F:=λK p=>bif nob (nogd p.1) (lw [] as B Φ (lZ (dp false (toL ops)) (Nat.sub (cut id) (v7 (cut id)))) (lV (dp false (toL ops)) (Nat.sub (cut id) (v7 (cut id)))) (fe (Nat.sub (cut id) (v7 (cut id))) (dp false (toL ops))) p.1 (ap p.2 M1))then twG B Φ (dp false (toL ops)) (fe (Nat.sub (cut id) (v7 (cut id))) (dp false (toL ops))) p.1 (ap p.2 M1) (λenv M=>K (Ex.nm,clr env,M))else False) (λp=>Tri.bif (hT _ _ _ _) Tri.no _)) Tri.no _
   ·generalize jf [] (Bj env (toL ops)) M env=q;obtain⟨env1,M1⟩:=q;exact Tri.bif ((Bq (Φ:=vB Φ) [] [] M1 [] _ env1 []).bind (F:=λK p=>bif nogd p.1 then twG B (vB Φ) (toL ops) (fe (Nat.sub (cut id) 1000) (toL ops)) p.1 (ap p.2 M1) (λenv M=>K (Ex.nm,clr env,M))else False) (λp=>Tri.bif ((EC (toL ops) _ (vB Φ) _ _).bind (F:=λK p=>K (Ex.nm,clr p.1,p.2)) hK) Tri.no _)) Tri.no _
   ·exact Tri.bif (hH _ _ _ _ _ _) Tri.no _
   ·exact Tri.bif ((JP _ _ _ env M).bind (F:=λK env=>twG B Φ (toL ops) (fe (cut id) (toL ops)) env M (λenv M=>K (Ex.nm,clr env,M))) (λenv=>hT _ _ _ _)) Tri.no _
 |.cond (.tmp t) x y,.j ss os ks A,env,M=>by
  simp only[ev];refine Tri.bif ?_ Tri.no _;have hj:=λp=>Ei (R:=EX) ss os (λK=>onK ss os ks env (λe env M=>K (e,env,M))) (SG ss os ks env) (λK p=>K p) (λp=>Tri.sel p) p
  exact Tri.cnd ((ip cut hno x A.fst env M).bind (F:=λK p=>jG ss os (onK ss os ks env (λe env M=>K (e,env,M))) (λe env M=>K (e,env,M)) p.1 p.2.1 p.2.2) hj)
   ((ip cut hno y A.snd env M).bind (F:=λK p=>jG ss os (onK ss os ks env (λe env M=>K (e,env,M))) (λe env M=>K (e,env,M)) p.1 p.2.1 p.2.2) hj) _
 |.cond (.tmp t) x y,.n,env,M|.cond (.tmp t) x y,.s _ _,env,M|.cond (.tmp t) x y,.l _ _ _ _,env,M=>by simp only[ev];exact Tri.bif (Tri.cnd (ip cut hno x _ env M) (ip cut hno y _ env M) _) Tri.no _
 |.block id c,.j ss os ks A,env,M=>by
  simp only[ev];refine Tri.bif ?_ Tri.no _;refine (ip cut hno c A env M).bind (F:=λK p=>pD id (jG ss os (onK ss os ks env (λe env M=>K (e,env,M))) (λe env M=>K (e,env,M))) p.1 p.2.1 p.2.2) (λp=>?_);have hj:=λp=>Ei (R:=EX) ss os (λK=>onK ss os ks env (λe env M=>K (e,env,M))) (SG ss os ks env) (λK p=>K p) (λp=>Tri.sel p) p;obtain⟨e,env',M'⟩:=p
  cases e with
  |nm=>exact hj (Ex.nm,env',M')
  |ex i=>simp only[pD];exact Tri.bif (hj (Ex.nm,env',M')) (hj (Ex.ex i,env',M')) _
  |rt=>exact hj (Ex.rt,env',M')
  |go l=>exact hj (Ex.go l,env',M')
 |.block id c,.n,env,M=>tri_blk cut id c .n env M (ip cut hno c .n env M)
 |.block id c,.s a b,env,M=>tri_blk cut id c (.s a b) env M (ip cut hno c (.s a b) env M)
 |.block id c,.l a b d e,env,M=>tri_blk cut id c (.l a b d e) env M (ip cut hno c (.l a b d e) env M)
 |.loop c,.l ss os ks A,env,M=>by
  simp only[ev];refine Tri.bif ?_ Tri.no _;split
  ·rename_i q hq;refine O_ (λ(K:EX->Prop) (s:gP ss×eO os) next=>imps (okS ss s.1) (imps (okO os s.2) (ev B Φ cut c A (jG ss os next (λe env M=>K (e,env,M))) (ap (pw ss s.1) (kept q.2 ks)) (dz os s.2)))) (λs=>?_) q.1;refine Tri.imps (Tri.imps ?_ _) _
   exact (ip cut hno c A _ _).bind (F:=λ(P:((gP ss×eO os) ⊕ EX)->Prop) p=>jG ss os (λs'=>P (.inl s')) (λe env M=>P (.inr (e,env,M))) p.1 p.2.1 p.2.2)
    (Ei (R:=(gP ss×eO os) ⊕ EX) ss os (λP s'=>P (Sum.inl s')) (λs'=>Tri.sel _) (λP p=>P (Sum.inr p)) (λp=>Tri.sel _))
  ·exact Tri.no
 |.loop c,.n,env,M|.loop c,.s _ _,env,M|.loop c,.j _ _ _ _,env,M|.cond (.const _) _ _,_,_,_|.cond (.func _) _ _,_,_,_|.cond (.global _) _ _,_,_,_|.rangeFunc _ _ _ _,_,_,_|.refuse _,_,_,_=>by simp only[ev];exact Tri.no
where
 tri_blk (cut:ju) (id:Nat) (c:jv) (A:Ann) (env:Env) (M:Mem) (h:Tri (λK:EX->Prop=>ev B Φ cut c A (λe env M=>K (e,env,M)) env M)):Tri (λK:EX->Prop=>ev B Φ cut c A (pD id (λe env M=>K (e,env,M))) env M):=by
  refine h.bind (F:=λK p=>pD id (λe env M=>K (e,env,M)) p.1 p.2.1 p.2.2) (λp=>?_);obtain⟨e,env',M'⟩:=p
  cases e with
  |nm=>exact Tri.sel _
  |ex i=>simp only[pD];exact Tri.bif (Tri.sel (Ex.nm,env',M')) (Tri.sel (Ex.ex i,env',M')) _
  |rt|go _=>exact Tri.sel _
def reT:T->Bool
 |.int _|.bool|.str|.u=>true
 |.p a b=>nob (reT a) (reT b)
 |.sl e=>reT e
 |.pt t=>reT t
 |_=>false
def World.put(w:aQ)(us:aM):World:={ w with heap:=w.heap.push (.cells us.toArray 0 (0,0)) }
theorem qI(w:aQ)(us:aM):(World.put w us).heap.size=w.heap.size+1:=by simp[World.put]
theorem x7(w:aQ)(us:aM)(b:Nat)(h:b<w.heap.size):(World.put w us).heap[b]? = w.heap[b]?:=by simp only[World.put];rw[Array.getElem?_push,aj aa]
theorem RK(w:aQ)(us:aM):(World.put w us).heap[w.heap.size]? = some (.cells us.toArray 0 (0,0)):=by simp only[World.put];rw[Array.getElem?_push,am rfl]
theorem OO(w:aQ)(us:aM)(o:Nat)(vs:aM)(h:∀(j:Nat)(u:bw),vs[j]? = some u->us[o+j]? = some u):iC (World.put w us) w.heap.size o vs:=by intro j u hu;simp only[World.cell?,RK];simpa using h j u hu
theorem Q2{n:Nat}:∀(vss:List (List Value)),(∀us∈vss,us.length=n)->∀(i:Nat)(us:aM),vss[i]? = some us->∀(j:Nat)(u:bw),us[j]? = some u->vss.flatten[i*n+j]? = some u
 |[],_,i,us,h,_,_,_=>by simp at h
 |vs::vss,hl,0,us,h,j,u,hj=>by simp only[iz,aI]at h;subst h;rw[wu,Nat.zero_mul,jO,fT (gp.1 hj).1];exact hj
 |vs::vss,hl,i+1,us,h,j,u,hj=>by simp only[lC]at h;have:=Q2 vss (λus hu=>hl us (fp _ hu)) i us h j u hj;have hv:=hl vs (gk ..);rw[wu,g9 (by rw[hv,um];omega),hv,show (i+1)*n+j-n=i*n+j by rw[um];omega];exact this
abbrev lt(w:aQ):Nat->Prop:=λb=>b<w.heap.size
theorem A8{w w':aQ}(h1:w.heap.size<=w'.heap.size)(h2:∀b,b<w.heap.size->w'.heap[b]? = w.heap[b]?):cE (lt w) (lt w') w w':=λb hb=>⟨fF hb h1,h2 b hb⟩
theorem Un{e:T}(ih:∀(x:e.den),e.ok x->∀w:World,∃w' vs,w.heap.size<=w'.heap.size/\(∀b,b<w.heap.size->w'.heap[b]? = w.heap[b]?)/\ai (lt w') w' e x vs) :
  (l:List e.den)->(∀y∈l,e.ok y)->∀w:World,∃w',∃vss:List (List Value),w.heap.size<=w'.heap.size/\(∀b,b<w.heap.size->w'.heap[b]? = w.heap[b]?)/\vss.length=l.length/\∀(i:Nat)(x:e.den)(us:aM),l[i]? = some x->vss[i]? = some us->ai (lt w') w' e x us
 |[],_,w=>⟨w,[],bd _,λ_ _=>rfl,rfl,λi x us h=>by simp at h⟩
 |x::l,h,w=>by
  obtain⟨w1,vs,a1,a2,a3⟩:=ih x (h x (gk ..)) w;obtain⟨w2,vss,b1,b2,b3,b4⟩:=Un ih l (λy hy=>h y (fp _ hy)) w1;refine⟨w2,vs::vss,c8 a1 b1,λb hb=>(b2 b (fF hb a1)).trans (a2 b hb),by simp[b3],λi y us hi hu=>?_⟩
  cases i with
  |zero=>simp only[iz,aI]at hi hu;subst hi;subst hu;exact ai.keep (A8 b1 b2) _ _ _ a3
  |succ i=>exact b4 i y us (by simpa using hi) (by simpa using hu)
theorem rep:(t:T)->reT t=true->(x:t.den)->t.ok x->∀w:World,∃w' vs,w.heap.size<=w'.heap.size/\(∀b,b<w.heap.size->w'.heap[b]? = w.heap[b]?)/\ai (lt w') w' t x vs
 |.int k,_,x,h,w=>⟨w,[.int k x],bd _,λ_ _=>rfl,by simp only[ai,aL];exact h⟩
 |.bool,_,x,h,w=>⟨w,[.bool x],bd _,λ_ _=>rfl,by simp only[ai]⟩
 |.str,_,x,h,w=>⟨w,[.string x],bd _,λ_ _=>rfl,by simp only[ai,aL];exact h⟩
 |.u,_,x,h,w=>⟨w,[],bd _,λ_ _=>rfl,by simp only[ai]⟩
 |.p a b,hr,x,h,w=>by simp only[reT,aP,ao]at hr;obtain⟨w1,va,a1,a2,a3⟩:=rep a hr.1 x.1 h.1 w;obtain⟨w2,vb,b1,b2,b3⟩:=rep b hr.2 x.2 h.2 w1;refine⟨w2,va++vb,c8 a1 b1,λc hc=>(b2 c (fF hc a1)).trans (a2 c hc),?_⟩;simp only[ai];exact⟨va,vb,rfl,ai.keep (A8 b1 b2) _ _ _ a3,b3⟩
 |.pt t,hr,x,h,w=>by obtain⟨w1,vs,a1,a2,a3⟩:=rep t hr x h w;refine⟨World.put w1 vs,[.pointer (some ⟨w1.heap.size,0,none⟩)],by rw[qI];omega,λb hb=>by rw[x7 _ _ _ aa];exact a2 b hb,?_⟩;simp only[ai];refine⟨w1.heap.size,0,vs,rfl,by simp only[lt,qI];omega,OO _ _ _ _ (λj u hu=>by rw[jO];exact hu),?_⟩;exact ai.keep (A8 (by rw[qI];omega) (λb hb=>x7 _ _ b hb)) _ _ _ a3
 |.sl e,hr,l,h,w=>by
  have h':l.length<=nb/\∀y∈l,e.ok y:=h;obtain⟨w1,vss,a1,a2,a3,a4⟩:=Un (rep e hr) l h'.2 w;have hlen:∀us∈vss,us.length=e.size:=λus hu=>by obtain⟨i,hi,rfl⟩:=jP hu;exact ai.len _ _ _ (a4 i (l[i]' aa) _ (bU aa) (bU hi))
  refine⟨World.put w1 vss.flatten,[.slice (some ⟨w1.heap.size,0,none⟩) l.length l.length],by rw[qI];omega,λb hb=>by rw[x7 _ _ _ aa];exact a2 b hb,?_⟩;simp only[ai];refine⟨some ⟨w1.heap.size,0,none⟩,l.length,rfl,⟨h'.1,bd _⟩,(λh=>nomatch h),λa ha hp=>?_⟩;cases ha;refine⟨rfl,by simp only[lt,qI];omega,λi x hx=>?_⟩;have hi:=(gp.1 hx).1;have hv:vss[i]? = some (vss[i]' aa):=bU aa;refine⟨_,OO _ _ _ (vss[i]' aa) (λj u hu=>?_),ai.keep (A8 (by rw[qI];omega) (λb hb=>x7 _ _ b hb)) _ _ _ (a4 i x _ hx hv)⟩;rw[jO];exact Q2 vss hlen i _ hv j u hu
 |.fn _ _,hr,_,_,_|.ifc _ _,hr,_,_,_|.ib _ _,hr,_,_,_|.mp _ _,hr,_,_,_|.op _,hr,_,_,_|.ns _,hr,_,_,_|.er _,hr,_,_,_|.any,hr,_,_,_=>by simp[reT]at hr
theorem Al:(t:T)->(x:t.den)->ab (t.oks x)->t.ok x
 |.int _,x,h=>h.1
 |.bool,_,_=>trivial
 |.str,x,h=>h.1
 |.u,_,_|.any,_,_=>trivial
 |.p a b,x,h=>by simp only[T.oks,fO]at h;exact⟨Al a x.1 h.1,Al b x.2 h.2⟩
 |.sl _,x,h=>h.1
 |.pt t,x,h|.fn _ t,x,h|.ifc _ t,x,h|.ib _ t,x,h=>Al t x h
 |.mp _ _,x,h|.op _,x,h|.ns _,x,h=>h.1
 |.er _,x,h=>trivial
def reL:List Bool->List T->Bool
 |[],[]=>true
 |g::gs,t::ts=>aO [reT t,orb g (Nat.beq t.size 1),reL gs ts]
 |_,_=>false
theorem O6{A A':aT}{w w':aQ}(h:cE A A' w w'):(gs:gj)->(ts:ii)->(x:bq ts)->(us:aM)->d5 A w gs ts x us->d5 A' w' gs ts x us
 |[],[],_,us,r=>by simpa only [d5]using r
 |[],_::_,_,_,r|_::_,[],_,_,r=>by simp[d5]at r
 |g::gs,t::ts,x,us,r=>by simp only[d5]at r⊢;obtain⟨u,us',vs,h1,h2,h3,h4,h5⟩:=r;exact⟨u,us',vs,h1,h2,h3,ai.keep h _ _ _ h4,O6 h gs ts x.2 us' h5⟩
theorem J1:(gs:gj)->(ts:ii)->reL gs ts=true->(x:bq ts)->ab (okL ts x)->∀w:World,∃w' us,w.heap.size<=w'.heap.size/\(∀b,b<w.heap.size->w'.heap[b]? = w.heap[b]?)/\d5 (lt w') w' gs ts x us
 |[],[],_,_,_,w=>⟨w,[],bd _,λ_ _=>rfl,by simp only[d5]⟩
 |[],_::_,h,_,_,_|_::_,[],h,_,_,_=>by simp[reL]at h
 |g::gs,t::ts,h,x,hx,w=>by
  simp only[reL,bH,bJ,bC,ao]at h;obtain⟨h1,h2,h3⟩:=h;simp only[okL,fO]at hx;obtain⟨w1,vs,a1,a2,a3⟩:=rep t h1 x.1 (Al _ _ hx.1) w;obtain⟨w2,us,b1,b2,b3⟩:=J1 gs ts h3 x.2 hx.2 w1;have k:=A8 b1 b2;have hk:=ai.keep k _ _ _ a3
  cases g with
  |true=>refine⟨w2,.agg vs.toArray::us,c8 a1 b1,λc hc=>(b2 c (fF hc a1)).trans (a2 c hc),?_⟩;simp only[d5];exact⟨_,us,vs,rfl,λ_=>rfl,(λh=>nomatch h),hk,b3⟩
  |false=>
   simp only[eX,yY]at h2;have hl:=(ai.len _ _ _ a3).trans (cR h2)
   match vs,hl with
   |[u],_=>refine⟨w2,u::us,c8 a1 b1,λc hc=>(b2 c (fF hc a1)).trans (a2 c hc),?_⟩;simp only[d5];exact⟨u,us,[u],rfl,(λh=>nomatch h),λ_=>rfl,hk,b3⟩
def okR:(rs:gH)->bY rs->List Prop
 |[],_=>[]
 |q::rs,x=>ap (q.2.strip.oks x.1) (okR rs x.2)
theorem Rv{w:aQ}(o:O)(x:o.strip.den)(S:aT)(vs:aM)(h:Rel Im w o x S vs):ab (o.strip.oks x):=kN _ _ (ai.ok _ _ _ (Rel.frz (Im':=λ_=>True) (λ_ _=>trivial) o x S vs (λ_ _=>trivial) h))
theorem JH{Im:aT}{w:aQ}:(rs:gH)->(x:bY rs)->(S:aT)->(us:aM)->cp Im w rs x S us->ab (okR rs x)
 |[],_,_,_,_=>trivial
 |q::rs,x,S,us,h=>by simp only[cp]at h;obtain⟨u,us',vs,S1,S2,_,_,_,_,_,_,h7,h8⟩:=h;simp only[okR,fO];exact⟨Rv _ _ _ _ h7,JH rs _ _ _ h8⟩
def dfR:(rs:gH)->bY rs
 |[]=>()
 |q::rs=>(q.2.strip.dflt,dfR rs)
theorem aa0(B:Tab)(rs:List ResultVar)(rt:gH):(p:EX)->Tri (λK:bY rt->Prop=>vK B rs rt K p.1 p.2.1 p.2.2)
 |(.nm,env,M)=>by
  simp only[vK,BP];split
  ·exact Tri.sel _
  ·exact Tri.no
 |(.rt,env,M)=>by
  simp only[vK,BP];split
  ·exact Tri.sel _
  ·exact Tri.no
 |(.ex _,env,M)|(.go _,env,M)=>Tri.no
def BG:List (Nat×Nat)->Bool
 |[]=>true
 |(_,c)::r=>nob (neg (Nat.beq c 999998)) (BG r)
theorem K4:{l:List (Nat×Nat)}->BG l=true->∀i,Nat.beq (fJ l i) 999998=false
 |[],_,i=>rfl
 |(k,c)::r,h,i=>by
  simp only[BG,aP,ao]at h;unfold fJ
  cases Nat.beq k i with
  |true=>
   have h1:=h.1
   cases hb:Nat.beq c 999998 with
   |true=>rw[hb]at h1;cases h1
   |false=>exact hb
  |false=>exact K4 h.2 i
theorem Sb(B:Tab)(Φ:du)(cut:ju)(hno:∀i,Nat.beq (cut i) 999998=false)(fn:Func)(c:jv)(A:Ann)(ct:Ct)(x:bq ct.args):Tri (evF B Φ cut fn c A ct x):=(ip (B:=B) (Φ:=Φ) cut hno c A (js 0 (dr B (toL fn.params) ct.args x)) []).bind (F:=λK p=>vK B (toL fn.results) ct.rt K p.1 p.2.1 p.2.2) (aa0 B (toL fn.results) ct.rt)
theorem C_(B:Tab)(rs:List ResultVar)(W:Wt):(p:EX)->Tri (λK:W.o.strip.den×bY W.rt->Prop=>yI B rs W (λz r=>K (z,r)) p.1 p.2.1 p.2.2)
 |(.nm,env,M)=>by
  simp only[yI,vk];split
  ·split
   ·split
    ·split
     ·exact Tri.sel _
     ·exact Tri.no
    ·exact Tri.no
   ·exact Tri.no
  ·exact Tri.no
 |(.rt,env,M)=>by
  simp only[yI,vk];split
  ·split
   ·split
    ·split
     ·exact Tri.sel _
     ·exact Tri.no
    ·exact Tri.no
   ·exact Tri.no
  ·exact Tri.no
 |(.ex _,env,M)|(.go _,env,M)=>Tri.no
theorem P4(B:Tab)(Φ:du)(cut:ju)(hno:∀i,Nat.beq (cut i) 999998=false)(fn:Func)(c:jv)(A:Ann)(W:Wt)(x:W.o.strip.den)(y:bq W.as):Tri (λK:W.o.strip.den×bY W.rt->Prop=>pH B Φ cut fn c A W x y (λz r=>K (z,r))):=(ip (B:=B) (Φ:=Φ) cut hno c A _ _).bind (F:=λK p=>yI B (toL fn.results) W (λz r=>K (z,r)) p.1 p.2.1 p.2.2) (C_ B (toL fn.results) W)
theorem abx (hΦ : fR P Φ) (hB : TabOk P B) (hmix : P.follows .mixedOrders = true)    (hf : P.funcs[f]? = some fn) (hb : fn.body = some c) (hn : (fn.name == "runtime.NumGoroutine") = false) (ct : Ct) (A : Ann) (cut : Nat -> Nat) (hno : ∀ i, Nat.beq (cut i) 999998 = false) (hE : ∃ w0 : World, fS P (lt w0) w0)
  (hga:ct.ga=agL B fn) (hfl:orb ct.sh (nU ct.rt)=true) (hck:okC fn.ntmps cut c=true) (hlen:ct.ga.length<=fn.ntmps) (hre:reL ct.ga ct.args=true) (Q:bq ct.args->bY ct.rt->Prop)
  (h:∀x,ab (okL ct.args x)->ab (ct.pre x)->evF B Φ cut fn c A ct x (Q x)) (x:bq ct.args) :
  ∃r,ab (okL ct.args x)->ab (ct.pre x)->evF B Φ cut fn c A ct x (λr'=>r'=r)/\ab (okR ct.rt r)/\Q x r:=by
 by_cases h1:ab (okL ct.args x)
 case neg=>exact⟨ct.res x,λh=>absurd h h1⟩
 by_cases h2:ab (ct.pre x)
 case neg=>exact⟨ct.res x,λ_ h=>absurd h h2⟩
 have go:∀Q:bY ct.rt->Prop,evF B Φ cut fn c A ct x Q->∃r,Q r/\ab (okR ct.rt r):=λQ hq=>by
  obtain⟨w0,hw0⟩:=hE;obtain⟨w,us,a1,a2,k3⟩:=J1 ct.ga ct.args hre x h1 w0
  obtain⟨e,w',fr,⟨r,rs,S,q1,_,_,_,q2⟩,_⟩:=TN hB hf hb hn { ct with pre:=λy=>[y=x] } (λy r=>y=x->Q r) hga hfl hlen
   (λy _ hy F p a w hG e1 e2 hst=>k9 hΦ hB hmix cut c F hG A _ _ _ (by rw[e1];exact hck) (by rw[e2];exact q8 c) (by have hyx:y=x:=hy.1;rw[hyx];exact (Sb B Φ cut hno fn c A ct x).mono (λr h _=>h) hq) p a w hst) (lt w) w us x (hw0.of λb hb hl=>⟨fF hl a1,a2 b hl⟩) (λb hb=>hb) k3 ⟨rfl,trivial⟩ []
  exact⟨r,q1 rfl,JH _ _ _ _ q2⟩
 rcases Sb B Φ cut hno fn c A ct x with h3|h3|⟨r,h3⟩
 ·exact (h3 _ (h x h1 h2)).elim
 ·obtain⟨r,hr,_⟩:=go (λ_=>False) (h3 _);exact hr.elim
 ·refine⟨r,λ_ _=>⟨(h3 _).2 rfl,?_,(h3 _).1 (h x h1 h2)⟩⟩;obtain⟨r',e,ho⟩:=go (λr'=>r'=r) ((h3 _).2 rfl);subst e;exact ho
theorem aa9 (hΦ : fR P Φ) (hB : TabOk P B) (hmix : P.follows .mixedOrders = true)    (hf : P.funcs[f]? = some fn) (hb : fn.body = some c) (hn : (fn.name == "runtime.NumGoroutine") = false) (W : Wt) (A : Ann) (cut : Nat -> Nat) (hno : ∀ i, Nat.beq (cut i) 999998 = false) (hE : ∃ w0 : World, fS P (lt w0) w0)
  (hro:lf W.o=true) (hi:W.i<=W.ag.length) (hga:cn W.i false W.ag=agL B fn) (hck:okC fn.ntmps cut c=true) (hlen:W.ag.length+1<=fn.ntmps) (hnw:noW [W.i] c=true) (hre:reL W.ag W.as=true) (t:T) (hot:W.o=.pt (.fz t)) (hrt:reT t=true)
  (Q:W.o.strip.den->bq W.as->W.o.strip.den->bY W.rt->Prop)
  (h:∀x y,ab (W.o.strip.oks x)->ab (okL W.as y)->ab (W.pre x y)->pH B Φ cut fn c A W x y (Q x y)) (x:W.o.strip.den) (y:bq W.as) :
  ∃q:W.o.strip.den×bY W.rt,ab (W.o.strip.oks x)->ab (okL W.as y)->ab (W.pre x y)->pH B Φ cut fn c A W x y (λz r=>z=q.1/\r=q.2)/\ab (W.o.strip.oks q.1)/\ab (okR W.rt q.2)/\Q x y q.1 q.2:=by
 by_cases h1:ab (W.o.strip.oks x)
 case neg=>exact⟨(W.new x y,W.res x y),λh=>absurd h h1⟩
 by_cases h2:ab (okL W.as y)
 case neg=>exact⟨(W.new x y,W.res x y),λ_ h=>absurd h h2⟩
 by_cases h3:ab (W.pre x y)
 case neg=>exact⟨(W.new x y,W.res x y),λ_ _ h=>absurd h h3⟩
 have go:∀Q:W.o.strip.den->bY W.rt->Prop,pH B Φ cut fn c A W x y Q->∃z r,Q z r/\ab (W.o.strip.oks z)/\ab (okR W.rt r):=λQ hq=>by
  obtain⟨w0,hw0⟩:=hE;obtain⟨w1,us,a1,a2,k3⟩:=J1 W.ag W.as hre y h2 w0;have hroot:∀(o:O)(x:o.strip.den),o=.pt (.fz t)->ab (o.strip.oks x)->∃w2 u,w1.heap.size<=w2.heap.size/\(∀b,b<w1.heap.size->w2.heap[b]? = w1.heap[b]?)/\∃S A:Nat->Prop,(∀b,b<w1.heap.size->A b)/\(∀b,A b->b<w2.heap.size)/\(∀b,S b->b<w2.heap.size/\¬A b)/\Rel A w2 o x S [u]:=by rintro o x rfl h1;obtain⟨w2,vs,a1,a2,a3⟩:=rep t hrt x (Al _ _ h1) w1;refine⟨World.put w2 vs,.pointer (some ⟨w2.heap.size,0,none⟩),by rw[qI];omega,λb hb=>by rw[x7 _ _ _ aa];exact a2 b hb,λb=>b=w2.heap.size,lt w2,λb hb=>by simp only[lt];omega,λb hb=>by rw[qI];simp only[lt]at hb;omega,λb hb=>by subst hb;rw[qI];simp only[lt];omega,?_⟩;simp only[Rel];exact⟨w2.heap.size,vs,0,λ_=>False,rfl,rfl,RK _ _,λc h=>h.elim,ai.keep (λb hb=>⟨hb,x7 _ _ b hb⟩) _ _ _ a3⟩
  obtain⟨w2,u,b1,b2,S,A',c1,c2,c3,c4⟩:=hroot W.o x hot h1
  obtain⟨e,w',fr,⟨z,r,rs,R,S',q1,_,_,_,_,q2,q3⟩,_⟩:=wt_q hΦ hB hmix hf hb hn W (λx' y'=>x'=x/\y'=y) (λx' y' z r=>x'=x->y'=y->Q z r) A cut hro hi hga hck hlen hnw
   (λx' y' _ _ hy=>by have e1:x'=x:=hy.1;have e2:y'=y:=hy.2;rw[e1,e2];exact (P4 B Φ cut hno fn c A W x y).mono (K:=λp=>Q p.1 p.2) (K':=λp=>x=x->y=y->Q p.1 p.2) (λr h _ _=>h) hq) A' w2 u x us y S (hw0.of λb hb hl=>⟨c1 b (fF hl a1),(b2 b (fF hl a1)).trans (a2 b hl)⟩) c2 c3 c4 (O6 (λb hb=>⟨c1 b hb,b2 b hb⟩) _ _ _ _ k3) ⟨rfl,rfl⟩ []
  exact⟨z,r,q1 rfl rfl,Rv _ _ _ _ q2,JH _ _ _ _ q3⟩
 rcases P4 B Φ cut hno fn c A W x y with h4|h4|⟨q,h4⟩
 ·exact (h4 (λp=>Q x y p.1 p.2) (h x y h1 h2 h3)).elim
 ·obtain⟨z,r,hr,_⟩:=go (λ_ _=>False) (h4 (λ_=>False));exact hr.elim
 ·have e1:=(h4 (λp=>p.1=q.1/\p.2=q.2)).2 ⟨rfl,rfl⟩;refine⟨q,λ_ _ _=>⟨e1,?_⟩⟩;obtain⟨z,r,⟨rfl,rfl⟩,o1,o2⟩:=go (λz r=>z=q.1/\r=q.2) e1;exact⟨o1,o2,(h4 (λp=>Q x y p.1 p.2)).1 (h x y h1 h2 h3)⟩
theorem ab8 (hΦ : fR P Φ) (hB : TabOk P B) (hmix : P.follows .mixedOrders = true)    (hf : P.funcs[f]? = some fn) (hb : fn.body = some c) (hn : (fn.name == "runtime.NumGoroutine") = false) (ct : Ct) (A : Ann) (cut : Nat -> Nat) (hno : ∀ i, Nat.beq (cut i) 999998 = false) (hE : ∃ w0 : World, fS P (lt w0) w0)
  (hga:ct.ga=agL B fn) (hfl:orb ct.sh (nU ct.rt)=true) (hck:okC fn.ntmps cut c=true) (hlen:ct.ga.length<=fn.ntmps) (hre:reL ct.ga ct.args=true)
  (W:bq ct.args->(bY ct.rt->Prop)->Prop) (hw:∀x K,evF B Φ cut fn c A ct x K=W x K) (Q:bq ct.args->bY ct.rt->Prop)
  (hm:∀x,ab (okL ct.args x)->ab (ct.pre x)->W x (Q x)) (x:bq ct.args) :
  ∃r,ab (okL ct.args x)->ab (ct.pre x)->W x (λr'=>r'=r)/\ab (okR ct.rt r)/\Q x r:=by
 obtain⟨r,h⟩:=abx hΦ hB hmix hf hb hn ct A cut hno hE hga hfl hck hlen hre Q (λx h1 h2=>(hw x _).mpr (hm x h1 h2)) x;exact⟨r,λh1 h2=>⟨(hw x _).mp (h h1 h2).1,(h h1 h2).2⟩⟩
theorem ac0 (hΦ : fR P Φ) (hB : TabOk P B) (hmix : P.follows .mixedOrders = true)    (hf : P.funcs[f]? = some fn) (hb : fn.body = some c) (hn : (fn.name == "runtime.NumGoroutine") = false) (W : Wt) (A : Ann) (cut : Nat -> Nat) (hno : ∀ i, Nat.beq (cut i) 999998 = false) (hE : ∃ w0 : World, fS P (lt w0) w0)
  (hro:lf W.o=true) (hi:W.i<=W.ag.length) (hga:cn W.i false W.ag=agL B fn) (hck:okC fn.ntmps cut c=true) (hlen:W.ag.length+1<=fn.ntmps) (hnw:noW [W.i] c=true) (hre:reL W.ag W.as=true) (t:T) (hot:W.o=.pt (.fz t)) (hrt:reT t=true)
  (V:W.o.strip.den->bq W.as->(W.o.strip.den->bY W.rt->Prop)->Prop) (hw:∀x y K,pH B Φ cut fn c A W x y K=V x y K)
  (Q:W.o.strip.den->bq W.as->W.o.strip.den->bY W.rt->Prop)
  (hm:∀x y,ab (W.o.strip.oks x)->ab (okL W.as y)->ab (W.pre x y)->V x y (Q x y)) (x:W.o.strip.den) (y:bq W.as) :
  ∃q:W.o.strip.den×bY W.rt,ab (W.o.strip.oks x)->ab (okL W.as y)->ab (W.pre x y)->V x y (λz r=>z=q.1/\r=q.2)/\ab (W.o.strip.oks q.1)/\ab (okR W.rt q.2)/\Q x y q.1 q.2:=by
 obtain⟨q,h⟩:=aa9 hΦ hB hmix hf hb hn W A cut hno hE hro hi hga hck hlen hnw hre t hot hrt Q (λx y h1 h2 h3=>(hw x y _).mpr (hm x y h1 h2 h3)) x y;exact⟨q,λh1 h2 h3=>⟨(hw x y _).mp (h h1 h2 h3).1,(h h1 h2 h3).2⟩⟩
theorem PE  (h : P.globalNamed "errors.errorType" = none) : ∃ w0 : World, fS P (lt w0) w0 := ⟨default, fun g hg => by cases h.symm.trans hg⟩
section
variable {F:Fr}{p:Ow}{w:aQ}
end
abbrev bO:T:=(.p (.int .i64) (.p (.sl (.int .i64)) (.p (.sl (.int .i64)) (.p (.sl (.int .i64)) (.sl (.sl (.int .i64)))))))
abbrev ah:Type:=Int×((List Int)×((List Int)×((List Int)×(List (List Int)))))
abbrev fM:O:=(.p (.fz (.int .i64)) (.p (.sl (.fz (.int .i64))) (.p (.sl (.fz (.int .i64))) (.p (.sl (.fz (.int .i64))) (.sl (.sl (.fz (.int .i64))))))))
abbrev io:T:=(.p bO (.p bO (.p (.sl (.int .i64)) (.sl (.int .i64)))))
abbrev aV:Type:=ah×(ah×((List Int)×(List Int)))
abbrev Ly:T:=(.p (.int .i64) (.p (.int .i64) (.sl (.int .i64))))
abbrev JJ:Type:=Int×(Int×(List Int))
abbrev tF:T:=(.p (.int .i64) (.sl (.int .i64)))
abbrev cB:Type:=Int×(List Int)
abbrev kw:T:=(.p (.int .i64) (.int .i64))
abbrev qK:Type:=Int×Int
abbrev Lx:O:=(.fz kw)
abbrev ke:T:=(.p (.sl (.int .u8)) (.p (.int .i64) (.int .u64)))
abbrev aU:Type:=(List Int)×(Int×Int)
abbrev Yb:T:=(.p io (.p io (.p .bool (.p (.int .i64) (.sl (.sl (.int .i64)))))))
abbrev fu:Type:=aV×(aV×(Bool×(Int×(List (List Int)))))
def inR(n lo hi:Int):Bool:=decide (lo<=n)&&decide (n<=hi)
def ds(l:aA)(n:Int):Bool:=l.all λy=>inR y 0 (n-1)
theorem fw:ds l n=true<->∀i:Int,0<=i->i<l.length->0<=l.getD i.toNat 0/\l.getD i.toNat 0<n:=by
 simp only[ds,gL,inR,ao,db];constructor
 ·intro h i h0 h1;have:=h _ (bX l 0 h0 h1);omega
 ·intro h x hx;obtain⟨k,hk,rfl⟩:=jP hx;have:=h k aa aa;rw[cQ,br,bU hk]at this;simp only[gA]at this;omega
def cu:Nat->(Int->Bool)->Bool
 |0,_=>true
 |n+1,p=>cu n p&&p n
theorem gX{p:jt}:∀{n:Nat},cu n p=true<->∀i:Int,0<=i->i<n->p i=true
 |0=>by simp only[cu,true_iff];intro i h0 h1;omega
 |n+1=>by
  simp only[cu,ao,gX (n:=n)];constructor
  ·rintro⟨h1,h2⟩ i h0 hi;by_cases e:i=n
   ·rw[e];exact h2
   ·exact h1 i h0 aa
  ·intro h;exact⟨λi h0 h1=>h i h0 aa,h n aa aa⟩
def ck{α:Type}(p:Int->Option α):Nat->Int->Option α
 |0,_=>none
 |k+1,i=>match p i with|some r=>some r|none=>ck p k (i+1)
theorem t9{p:Int->Option α}{r:α}(h:i<n)(hp:p i=some r):ck p (n-i).toNat i=some r:=by rw[show (n-i).toNat=(n-(i+1)).toNat+1 from by omega,ck,hp]
theorem tz{p:Int->Option α}(h:i<n)(hp:p i=none):ck p (n-i).toNat i=ck p (n-(i+1)).toNat (i+1):=by rw[show (n-i).toNat=(n-(i+1)).toNat+1 from by omega,ck,hp]
theorem tq{p:Int->Option α}:ck p (n-n).toNat n=none:=by rw[show (n-n).toNat=0 from by omega,ck]
theorem t8{p:Int->Option α}{n:Nat}:ck p n 0=ck p ((n:Int)-0).toNat 0:=by rw[show ((n:Int)-0).toNat=n from by omega]
def orR:Option α->α->α
 |some x,_=>x
 |none,y=>y
def dh:Nat->(Int->Bool)->List Int
 |0,_=>[]
 |n+1,p=>if p n=true then dh n p++[(n:Int)]else dh n p
theorem xU(h0:0<=i)(h:p i=true):dh (i+1).toNat p=dh i.toNat p++[i]:=by rw[show (i+1).toNat=i.toNat+1 from by omega,dh,show ((i.toNat:Nat):Int)=i from by omega,am h]
theorem xR(h0:0<=i)(h:p i=false):dh (i+1).toNat p=dh i.toNat p:=by rw[show (i+1).toNat=i.toNat+1 from by omega,dh,show ((i.toNat:Nat):Int)=i from by omega,aj (by rw[h];simp)]
theorem gD{p:jt}:∀n:Nat,(dh n p).length<=n
 |0=>bd _
 |n+1=>by
  have:=gD (p:=p) n;unfold dh;split
  ·rw[bn];simp;omega
  ·omega
theorem kS{p:jt}{x:Int}:∀{n:Nat},x∈dh n p<->0<=x/\x<n/\p x=true
 |0=>by simp only[dh,wh,false_iff];omega
 |n+1=>by
  unfold dh;split
  ·rename_i h;rw[eS,kS,cA];constructor
   ·rintro (⟨a,b,c⟩|rfl)
    ·exact⟨a,aa,c⟩
    ·exact⟨aa,aa,h⟩
   ·rintro⟨a,b,c⟩;by_cases e:x=n
    ·exact .inr e
    ·exact .inl ⟨a,aa,c⟩
  ·rename_i h;rw[kS];constructor
   ·rintro⟨a,b,c⟩;exact⟨a,aa,c⟩
   ·rintro⟨a,b,c⟩;by_cases e:x=n
    ·subst e;exact absurd c h
    ·exact⟨a,aa,c⟩
theorem Q3(l:List α)(k y:Nat)(x d:α)(hk:k<l.length):(l.set k x).getD y d=if k=y then x else l.getD y d:=by
 rw[br,br,o9];split
 ·rename_i h;subst h;simp[hk]
 ·rfl
def aG{α:Type}:Nat->(Int->α)->List α
 |0,_=>[]
 |n+1,f=>aG n f++[f n]
theorem bA{α:Type}{f:Int->α}:∀n:Nat,(aG n f).length=n
 |0=>rfl
 |n+1=>by simp[aG,bA n]
theorem eY{f:Int->α}(h0:0<=i):aG (i+1).toNat f=aG i.toNat f++[f i]:=by rw[show (i+1).toNat=i.toNat+1 from by omega,aG,show ((i.toNat:Nat):Int)=i from by omega]
theorem dN{α:Type}{f:Int->α}{d:α}{i:Int}:∀{n:Nat},0<=i->i<n->(aG n f).getD i.toNat d=f i
 |0,h0,h1=>aa
 |n+1,h0,h1=>by
  unfold aG;by_cases e:i=n
  ·subst e;rw[br,g9 (by rw[bA];omega),bA];simp
  ·rw[br,fT (by rw[bA];omega),←br];exact dN h0 aa
theorem fN{α:Type}{f:Int->α}{x:α}:∀{n:Nat},x∈aG n f<->∃i:Int,0<=i/\i<n/\x=f i
 |0=>by simp only[aG,wh,false_iff];rintro⟨i,h0,h1,_⟩;omega
 |n+1=>by
  unfold aG;rw[eS,fN,cA];constructor
  ·rintro (⟨i,h0,h1,h⟩|h)
   ·exact⟨i,h0,aa,h⟩
   ·exact⟨n,aa,aa,h⟩
  ·rintro⟨i,h0,h1,h⟩;by_cases e:i=n
   ·subst e;exact .inr h
   ·exact .inl ⟨i,h0,aa,h⟩
theorem ge{α:Type}{f g:Int->α}:∀{n:Nat},(∀i:Int,0<=i->i<n->f i=g i)->aG n f=aG n g
 |0,_=>rfl
 |n+1,h=>by unfold aG;rw[h n aa aa,ge λi h0 h1=>h i h0 aa]
theorem R6{α:Type}(x:α):∀n:Nat,List.replicate n x=aG n λ_=>x
 |0=>rfl
 |n+1=>by rw[wy,aG,R6 x n]
theorem uV{α:Type}{f:Int->α}{x:α}{k:Int}:∀{n:Nat},0<=k->k<n->(aG n f).set k.toNat x=aG n λy=>if y=k then x else f y
 |0,h0,h1=>aa
 |n+1,h0,h1=>by
  unfold aG;by_cases e:k=n
  ·subst e;rw[List.set_append,aj (by rw[bA];omega),bA];simp only[cQ,ut,ur,dA];rw[ge (g:=λy=>if y=(n:Int)then x else f y) λi i0 i1=>by rw[aj aa]]
  ·rw[List.set_append,am (by rw[bA];omega),uV h0 aa];dsimp only;rw[aj (cM e)]
theorem aaj{p:α->Bool}(l:List α)(d:α)(h0:0<=i)(h1:i<l.length):(l.take (i+1).toNat).all p=((l.take i.toNat).all p&&p (l.getD i.toNat d)):=by rw[gE l d h0 h1,C8];simp
theorem bQ{n b:Nat}(h:(n+m)*b<=140737488355328):bg n m b:=by unfold bg;rw[ce];exact h
theorem xB(h0:0<=i):cu (i+1).toNat p=(cu i.toNat p&&p i):=by rw[show (i+1).toNat=i.toNat+1 from by omega,cu,show ((i.toNat:Nat):Int)=i from by omega]
theorem Sk{p q:jt}:∀{n:Nat},(dh n p).filter q=dh n λx=>p x&&q x
 |0=>rfl
 |n+1=>by unfold dh;cases h:p n<;>cases g:q n<;>simp[h,g,Sk (n:=n)]
theorem iB(F:Int->α){i0:Int}{a0:α}{body:(Unit×(Int×Unit))×(α×Unit)->((Unit×(Int×Unit))×(α×Unit)->Prop)->Prop}(hn:i0<=n)(h0:a0=F i0)(hs:∀i next,i0<=i->i<n->next (((),(i+1,())),(F (i+1),()))->body (((),(i,())),(F i,())) next)(he:∀next,body (((),(n,())),(F n,())) next):aK body (((),(i0,())),(a0,())):=by
 refine bt (λs=>s.2.1=F s.1.2.1/\i0<=s.1.2.1/\s.1.2.1<=n) (λs=>(n-s.1.2.1).toNat) ?_ ⟨h0,dB _,hn⟩;rintro⟨⟨_,i,_⟩,y,_⟩ next ⟨hy,h1,h2⟩ hnx
 dsimp only at hy h1 h2 hnx;subst hy;by_cases e:i=n
 ·subst e;exact he next
 ·exact hs i next h1 aa (hnx _ ⟨rfl,an,an⟩ an)
theorem AH(l:List α)(d:α)(p:α->Bool)(hs:∀(i:Int) next,0<=i->i<l.length->(p (l.getD i.toNat d)=false->l.all p=false)->(p (l.getD i.toNat d)=true->next ((i+1,()),()))->body ((i,()),()) next)(he:∀next,l.all p=true->body (((l.length:Int),()),()) next):aK body ((0,()),()):=by
 refine eV (n:=l.length) (λi=>(l.take i.toNat).all p=true) aa ak ?_ ?_
 ·intro i next i0 i1 hP hn
  have ht:=aaj (p:=p) l d i0 i1;rw[hP,gB]at ht;rw[ht]at hn;exact hs i next i0 i1 (λh=>by rw[List.all_eq_false];exact⟨_,bX l d i0 i1,by rw[h];simp⟩) hn
 ·intro next hP
  rw[lQ _ (dB _)]at hP;exact he next hP
theorem IV(n:Nat)(p:jt)(hs:∀(i:Int) next,0<=i->i<n->(p i=false->cu n p=false)->(p i=true->next ((i+1,()),()))->body ((i,()),()) next)(he:∀next,cu n p=true->body (((n:Int),()),()) next):aK body ((0,()),()):=by
 refine eV (n:=n) (λi=>cu i.toNat p=true) aa rfl ?_ ?_
 ·intro i next i0 i1 hP hn
  rw[xB i0,hP,gB]at hn;refine hs i next i0 i1 (λh=>?_) hn
  cases hb:cu n p with
  |false=>rfl
  |true=>rw[gX.1 hb i i0 i1]at h;cases h
 ·intro next hP
  exact he next hP
theorem Qc(n:Nat)(p:jt){body:(Unit×(Int×Unit))×(List Int×Unit)->((Unit×(Int×Unit))×(List Int×Unit)->Prop)->Prop}(hs:∀(i:Int)(out:aA) next,0<=i->i<n->(∀s:List Int,s=(if p i=true then out++[i]else out)->next (((),(i+1,())),(s,())))->out.length<=n->body (((),(i,())),(out,())) next)(he:∀next,body (((),((n:Int),())),(dh n p,())) next):aK body (((),(0,())),([],())):=by
 refine iB (λi=>dh i.toNat p) (n:=n) aa rfl ?_ ?_
 ·intro i next i0 i1 hn
  have:=gD (p:=p) i.toNat;refine hs i _ next i0 i1 (λs h=>?_) aa
  subst h;split
  ·rename_i h;rw[←xU i0 h];exact hn
  ·rename_i h;rw[←xR i0 (by simpa using h)];exact hn
 ·intro next
  exact he next
theorem uR{k:(Unit×Unit)×(List α×Unit)->Prop}{f:((Unit×Unit)×(List α×Unit)->Prop)->Prop}(r:List α)(hk:∀s,s.2.1=r->k s)(hf:∀k',(∀s:List α,s=r->k' (((),()),(s,())))->f k'):bK k f:=bZ (λs=>s.2.1=r) hk λk' h=>hf k' λs hs=>h _ hs
def hV(p:jt)(l:aA)(i:Int):List Int:=(l.take i.toNat).filter p
theorem ya{p:jt}{l:aA}{i:Int}(h0:0<=i)(h1:i<l.length)(h:p (l.getD i.toNat 0)=true):hV p l (i+1)=hV p l i++[l.getD i.toNat 0]:=by unfold hV;rw[gE l 0 h0 h1,zn];simp only[oy,h,dA,CB]
theorem vl{p:jt}{l:aA}{i:Int}(h0:0<=i)(h1:i<l.length)(h:p (l.getD i.toNat 0)=false):hV p l (i+1)=hV p l i:=by unfold hV;rw[gE l 0 h0 h1,zn];simp only[oy,h,d4,pO,CB,iM]
theorem xO(h:(l.length:Int)<=i):hV p l i=l.filter p:=by unfold hV;rw[lQ l h]
theorem xy{p:jt}{l:aA}{i:Int}:(hV p l i).length<=l.length:=c8 (wz _ _) (by rw[dW];omega)
theorem acl{l:List α}{i:Nat}:(om l i).length=l.length:=by simp[om]
theorem abb{l:List α}{i:Nat}{y:α}:vC ((om l i).set i (some y))=true:=by
 simp only[vC,om,gL,List.set_set];intro x hx;rcases CC hx with h|h
 ·obtain⟨z,_,rfl⟩:=fX.1 h;rfl
 ·rw[h];rfl
theorem acb{z:α}{l:List α}{i:Nat}{y:α}:pv z ((om l i).set i (some y))=l.set i y:=by
 simp only[pv,om,List.set_set,List.map_set,gA,List.map_map];congr 1
 conv=>rhs;rw[←List.map_id l]
 exact List.map_congr_left λx _=>rfl
theorem PA{k v:T}{x:k.den}{z:v.den}{l:List (k.den×v.den)}:(dq k v l x z).length<=l.length+1:=(@EL k v l x z l).1
theorem AM{β:Type}{f:α->β}{l:List α}{d:α}{d':β}{i:Nat}(h:i<l.length):(l.map f).getD i d'=f (l.getD i d):=by simp[br,h]
theorem OC{k v:T}{x y:k.den}{z:v.den}:∀{l:List (k.den×v.den)},y∈(dq k v l x z).map (·.1)<->y∈l.map (·.1)\/y=x
 |[]=>by simp[dq]
 |e::r=>by
  have ih:=@OC k v x y z r;simp only[dq];by_cases h:eqR k x e.1=true
  ·rw[am h];have:=nL.1 h;simp only[iN,cz,this];constructor
   ·rintro (h|h)
    ·exact .inl (.inl h)
    ·exact .inl (.inr h)
   ·rintro ((h|h)|h)
    ·exact .inl h
    ·exact .inr h
    ·exact .inl h
  ·rw[aj h];simp only[iN,cz,ih,or_assoc]
theorem RX{k v:T}{x:k.den}{z:v.den}:∀{l:List (k.den×v.den)},x∈l.map (·.1)->(dq k v l x z).length=l.length
 |[],h=>by simp at h
 |e::r,h=>by
  simp only[dq];by_cases h1:eqR k x e.1=true
  ·rw[am h1];rfl
  ·rw[aj h1]
   have hx:x∈r.map (·.1):=by
    rcases cz.1 h with h|h
    ·exact absurd (nL.2 h) h1
    ·exact h
   simp only[aX,@RX k v x z r hx]
theorem PP{k v:T}{x:k.den}{z:v.den}:∀{l:List (k.den×v.den)},x∉l.map (·.1)->(dq k v l x z).length=l.length+1
 |[],_=>rfl
 |e::r,h=>by simp only[iN,cz,not_or]at h;simp only[dq];rw[aj (λh1=>h.1 (nL.1 h1))];simp only[aX,@PP k v x z r h.2]
theorem Jq(d:α):∀l:List α,aG l.length (λi=>l.getD i.toNat d)=l:=by intro l;refine List.ext_getElem (bA _) λk h1 h2=>?_;rw[bA]at h1;have:=@dN α (λi=>l.getD i.toNat d) d (k:Int) l.length aa aa;rw[cQ,br,bU (by rw[bA];exact h1),br,bU h1]at this;exact this
end Go.Bm
