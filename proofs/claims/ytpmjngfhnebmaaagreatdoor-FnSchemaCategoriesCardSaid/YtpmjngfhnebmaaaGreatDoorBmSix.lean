/- The typed machine that the walks of this claim go by: its data, its operations and the proof that each is sound. No condition. -/
import Derived.Test.YtpmjngfhnebmaaaGreatDoorBmFive
import Derived.ScopeJumps
set_option linter.unusedVariables false
set_option linter.unusedSimpArgs false
set_option linter.unusedSectionVars false
namespace Go.Bm
open Go.RowKit
abbrev yY:=@Array.getElem?_push
abbrev Gk:=@List.replicate_succ'
abbrev rN:Type:=Int->Bool
variable {B:Tab}{Im:aT}{M:Mem}{P:d4}{R R' S α:Type}{a:Act}{body:LX}{c:Code}{env:Env}{f:gp}{fn:Func}{i n:Int}{l:aw}{m:Nat}{p:rN}{s:Sp}{Φ:dM}
def Tri(X:(R->Prop)->Prop):Prop:=(∀K,¬X K)\/(∀K,X K)\/∃r,∀K,X K<->K r
theorem Tri.no:Tri (λ_:R->Prop=>False):=.inl λ_ h=>h
theorem Tri.sel(r:R):Tri (λK:R->Prop=>K r):=.inr (.inr ⟨r,λ_=>lh⟩)
theorem Tri.bind{X:(R->Prop)->Prop}(h:Tri X){F:(R'->Prop)->R->Prop}(hF:∀r,Tri (λK=>F K r)):Tri (λK=>X (F K)):=by
 rcases h with h|h|⟨r,h⟩
 ·exact .inl λK=>h _
 ·exact .inr (.inl λK=>h _)
 ·have:(λK=>X (F K))=(λK=>F K r):=funext λK=>propext (h _);rw[this];exact hF r
theorem Tri.mono{X:(R->Prop)->Prop}(h:Tri X){K K':R->Prop}(hk:∀r,K r->K' r)(hx:X K):X K':=by
 rcases h with h|h|⟨r,h⟩
 ·exact (h _ hx).elim
 ·exact h _
 ·exact (h _).2 (hk _ ((h _).1 hx))
theorem Tri.conj{X:(R->Prop)->Prop}(h:Tri X):(l:nM)->Tri (λK=>conj l (X K))
 |[]=>h
 |p::l=>by
  by_cases hp:p
  ·have:(λK=>Bm.conj (p::l) (X K))=(λK=>Bm.conj l (X K)):=funext λK=>propext ⟨λh=>h.2,λh=>⟨hp,h⟩⟩;rw[this];exact Tri.conj h l
  ·exact .inl λK hk=>hp hk.1
theorem Tri.imp{X:(R->Prop)->Prop}(h:Tri X)(g:Prop)(l:nM):Tri (λK=>imp g l (X K)):=by
 cases l with
 |nil=>exact h
 |cons p l=>
  by_cases hp:g->Bm.conj l p
  ·have:(λK=>Bm.imp g (p::l) (X K))=X:=funext λK=>propext ⟨λh=>h.2,λh=>⟨hp,h⟩⟩;rw[this];exact h
  ·exact .inl λK hk=>hp hk.1
theorem Tri.imps{X:(R->Prop)->Prop}(h:Tri X):(l:nM)->Tri (λK=>imps l (X K))
 |[]=>h
 |p::l=>by
  by_cases hp:p
  ·have:(λK=>Bm.imps (p::l) (X K))=(λK=>Bm.imps l (X K)):=funext λK=>propext ⟨λh=>h hp,λh _=>h⟩;rw[this];exact Tri.imps h l
  ·exact .inr (.inl λK hk=>absurd hk hp)
theorem Tri.cnd{X Y:(R->Prop)->Prop}(hx:Tri X)(hy:Tri Y)(b:bC):Tri (λK=>cnd b (X K) (Y K)):=by
 cases b with
 |true=>have:(λK=>Bm.cnd true (X K) (Y K))=X:=funext λK=>propext ⟨λh=>h.1 rfl,λh=>⟨λ_=>h,λh=>nomatch h⟩⟩;rw[this];exact hx
 |false=>have:(λK=>Bm.cnd false (X K) (Y K))=Y:=funext λK=>propext ⟨λh=>h.2 rfl,λh=>⟨λh=>(nomatch h),λ_=>h⟩⟩;rw[this];exact hy
theorem Tri.bif{X Y:(R->Prop)->Prop}(hx:Tri X)(hy:Tri Y)(b:bC):Tri (λK=>bif b then X K else Y K):=by
 cases b with
 |true=>exact hx
 |false=>exact hy
theorem Jl{S:Type}(body:(R->Prop)->S->(S->Prop)->Prop)(h:∀s,Tri (λP:(S ⊕ R)->Prop=>body (λr=>P (.inr r)) s (λs'=>P (.inl s')))):∀(n:Nat)(s:S),Tri (λK=>jz (body K) n s)
 |0,s=>Tri.no
 |n+1,s=>(h s).bind (F:=λK p=>match p with|.inl s'=>jz (body K) n s'|.inr r=>K r) (λp=>by
   cases p with
   |inl s'=>exact Jl body h n s'
   |inr r=>exact Tri.sel r)
theorem RB{S:Type}(body:(R->Prop)->S->(S->Prop)->Prop)(h:∀s,Tri (λP:(S ⊕ R)->Prop=>body (λr=>P (.inr r)) s (λs'=>P (.inl s'))))(K:R->Prop):∀(n:Nat)(s:S),jz (body K) n s->jz (body K) (n+1) s
 |0,s,hi=>hi.elim
 |n+1,s,hi=>(h s).mono (K:=λp=>match p with|.inl s'=>jz (body K) n s'|.inr r=>K r) (K':=λp=>match p with|.inl s'=>jz (body K) (n+1) s'|.inr r=>K r) (λp hp=>by
   cases p with
   |inl s'=>exact RB body h K n s' hp
   |inr r=>exact hp) hi
theorem Rl(body:(R->Prop)->S->(S->Prop)->Prop)(h:∀s,Tri (λP:(S ⊕ R)->Prop=>body (λr=>P (.inr r)) s (λs'=>P (.inl s'))))(K:R->Prop)(s:S){n:Nat}(hnm:n<=m)(hi:jz (body K) n s):jz (body K) m s:=by
 induction hnm with
 |refl=>exact hi
 |step _ ih=>exact RB body h K _ s ih
theorem O_(body:(R->Prop)->S->(S->Prop)->Prop)(h:∀s,Tri (λP:(S ⊕ R)->Prop=>body (λr=>P (.inr r)) s (λs'=>P (.inl s'))))(s:S):Tri (λK=>aI (body K) s):=by
 by_cases hv:∃n,∀K,jz (body K) n s
 ·obtain⟨n,hn⟩:=hv;exact .inr (.inl λK=>⟨n,hn K⟩)
 by_cases hs:∃n r,∀K,jz (body K) n s<->K r
 ·obtain⟨n,r,hn⟩:=hs;refine .inr (.inr ⟨r,λK=>⟨λ⟨m,hm⟩=>?_,λhk=>⟨n,(hn K).2 hk⟩⟩⟩);have h1:=Rl body h K s (Nat.le_max_left m n) hm;have h2:=Rl body h (λx=>x=r) s (Nat.le_max_right m n) ((hn _).2 rfl);rcases Jl body h (max m n) s with h3|h3|⟨r',h3⟩
  ·exact (h3 _ h1).elim
  ·exact (hv ⟨_,h3⟩).elim
  ·have:r'=r:=(h3 (λx=>x=r)).1 h2;subst this;exact (h3 K).1 h1
 ·refine .inl λK ⟨m,hm⟩=>?_;rcases Jl body h m s with h3|h3|⟨r',h3⟩
  ·exact h3 _ hm
  ·exact hv ⟨_,h3⟩
  ·exact hs ⟨m,r',h3⟩
abbrev EM:=Env×Mem
abbrev EX:=Ex×Env×Mem
theorem AD(all:bY):(ops:bY)->(Φ:dM)->(env:Env)->(M:Mem)->Tri (λK:EM->Prop=>twG B Φ all ops env M (λenv M=>K (env,M)))
 |[],Φ,env,M=>Tri.sel (env,M)
 |o::rest,Φ,env,M=>by
  simp only[twG];split
  ·exact Tri.bif Tri.no ((AD all rest Φ _ _).conj _) _
  ·split
   ·exact Tri.bif ((AD all rest Φ _ _).imp _ _) Tri.no _
   ·exact Tri.no
theorem JH(all tl:bY):(ops:bY)->(env:Env)->(M:Mem)->Tri (λK:Env->Prop=>dwG B Φ all tl ops env M K)
 |[],env,M=>Tri.sel env
 |o::rest,env,M=>by
  simp only[dwG];split
  ·exact Tri.bif ((JH all tl rest _ _).conj _) Tri.no _
  ·split
   ·exact Tri.bif ((JH all tl rest _ _).imp _ _) Tri.no _
   ·exact Tri.no
theorem Sf(all:bY):(ops:bY)->(env:Env)->(M:Mem)->Tri (λK:EM->Prop=>twS B Φ all ops env M (λenv M=>K (env,M)))
 |[],env,M=>Tri.sel (env,M)
 |o::rest,env,M=>by
  have key:∀Φ':FuncId->Option Ct,Tri (λK:EM->Prop=>twG B Φ' all [o] env M (λenv M=>twS B Φ all rest env M (λenv M=>K (env,M)))):=λΦ'=>(AD all [o] Φ' env M).bind (F:=λK p=>twS B Φ all rest p.1 p.2 (λenv M=>K (env,M))) (λp=>Sf all rest p.1 p.2);simp only[twS];refine Tri.bif ?_ Tri.no _;split
  ·exact Tri.cnd (key _) (key _) _
  ·exact key _
theorem Tri.ifP{X Y:(R->Prop)->Prop}(hx:Tri X)(hy:Tri Y)(p:Prop):Tri (λK=>ifP p (X K) (Y K)):=by
 by_cases hp:p
 ·have:(λK=>Bm.ifP p (X K) (Y K))=X:=funext λK=>propext ⟨λh=>h.1 hp,λh=>⟨λ_=>h,λh=>absurd hp h⟩⟩;rw[this];exact hx
 ·have:(λK=>Bm.ifP p (X K) (Y K))=Y:=funext λK=>propext ⟨λh=>h.2 hp,λh=>⟨λh=>absurd h hp,λ_=>h⟩⟩;rw[this];exact hy
theorem AB(all:bY):(ops:bY)->(env:Env)->(M:Mem)->Tri (λK:EM->Prop=>twQ B Φ all ops env M (λenv M=>K (env,M)))
 |[],env,M=>Tri.sel (env,M)
 |o::rest,env,M=>by
  simp only[twQ];split
  ·exact Tri.bif Tri.no ((AB all rest _ _).conj _) _
  ·split
   ·exact Tri.bif (Tri.bif ((AB all rest _ _).imp _ _) (Tri.bif Tri.no (Tri.ifP ((AB all rest _ _).conj _) (AB all rest _ _) _) _) _) Tri.no _
   ·exact Tri.no
theorem afd:(ops:bY)->(env:Env)->(X:Mem)->Tri (λK:EM->Prop=>bx B Φ ops env X (λenv M=>K (env,M))):=λ_ _ _=>Tri.no
theorem AX(ks as:bK)(M0:Mem):(D:fw)->(ops:bY)->(env:Env)->(X:Mem)->Tri (λK:EM->Prop=>hx D ks as B Φ M0 ops env X (λenv M=>K (env,M)))
 |D,[],env,X=>Tri.sel (env,X)
 |D,o::r,env,X=>by
  simp only[hx];split
  ·refine Tri.bif ?_ Tri.no _;exact Tri.bif ((AX ks as M0 (rp D) r _ _).conj _) Tri.no _
  ·exact Tri.no
theorem Tm(ss:Shs)(os:Obs)(ks:bK)(env:Env)(s:gZ ss×fo os):Tri (λK:EX->Prop=>onK ss os ks env (λe env M=>K (e,env,M)) s):=Tri.imps (Tri.imps (Tri.sel (Ex.nm,_,_)) _) _
theorem Y_(ss:Shs)(os:Obs)(env:Env)(M:Mem)(F:(R->Prop)->gZ ss×fo os->Prop)(hF:∀s,Tri (λK=>F K s)):Tri (λK=>B0 ss os env M (F K)):=by
 unfold B0;split
 ·exact hF _
 ·exact Tri.no
theorem DH(ss:Shs)(os:Obs)(F:(R->Prop)->gZ ss×fo os->Prop)(hF:∀s,Tri (λK=>F K s))(G:(R->Prop)->EX->Prop)(hG:∀p,Tri (λK=>G K p)):(p:EX)->Tri (λK=>kh ss os (F K) (λe env M=>G K (e,env,M)) p.1 p.2.1 p.2.2)
 |(.nm,env,M)=>Y_ ss os env M F hF
 |(.ex id,env,M)=>hG (.ex id,env,M)
 |(.rt,env,M)=>hG (.rt,env,M)
 |(.go l,env,M)=>hG (.go l,env,M)
theorem iC(cut:nK)(hno:∀i,Nat.beq (cut i) 999998=false):(c:Code)->(A:Ann)->(env:Env)->(M:Mem)->Tri (λK:EX->Prop=>ev B Φ cut c A (λe env M=>K (e,env,M)) env M)
 |.skip,_,env,M=>Tri.sel (Ex.nm,env,M)
 |.ret,_,env,M=>Tri.sel (Ex.rt,env,M)
 |.exit id,_,env,M=>Tri.sel (Ex.ex id,env,M)
 |.goto l,_,env,M=>Tri.sel (Ex.go l,env,M)
 |.label _,_,env,M=>Tri.sel (Ex.nm,env,M)
 |.scope c,A,env,M=>by
  simp only[ev];refine (iC cut hno c A env M).bind (F:=λK p=>scpK (λe env M=>K (e,env,M)) p.1 p.2.1 p.2.2) (λp=>?_);obtain⟨e,env',M'⟩:=p
  cases e with
  |nm|ex _|rt=>exact Tri.sel _
  |go _=>exact Tri.no
 |.seq x y,.j ss os ks A,env,M=>by
  simp only[ev];refine Tri.bif ?_ Tri.no _
  have hs:∀p:EX,Tri (λK:EX->Prop=>m9 (λenv M=>ev B Φ cut y A.snd (λe env M=>K (e,env,M)) env M) (λe env M=>K (e,env,M)) p.1 p.2.1 p.2.2):=λp=>by
   obtain⟨e,env',M'⟩:=p
   cases e with
   |nm=>exact iC cut hno y A.snd env' M'
   |ex _|rt|go _=>exact Tri.sel _
  have hj:=λp=>DH (R:=EX) ss os (λK=>onK ss os ks env (m9 (λenv M=>ev B Φ cut y A.snd (λe env M=>K (e,env,M)) env M) (λe env M=>K (e,env,M)))) (λs=>Tri.imps (Tri.imps (hs (Ex.nm,_,_)) _) _) (λK p=>m9 (λenv M=>ev B Φ cut y A.snd (λe env M=>K (e,env,M)) env M) (λe env M=>K (e,env,M)) p.1 p.2.1 p.2.2) hs p;exact (iC cut hno x A.fst env M).bind (F:=λK p=>kh ss os (onK ss os ks env (m9 (λenv M=>ev B Φ cut y A.snd (λe env M=>K (e,env,M)) env M) (λe env M=>K (e,env,M)))) (m9 (λenv M=>ev B Φ cut y A.snd (λe env M=>K (e,env,M)) env M) (λe env M=>K (e,env,M))) p.1 p.2.1 p.2.2) hj
 |.seq x y,.n,env,M=>by
  simp only[ev];refine (iC cut hno x _ env M).bind (F:=λK p=>m9 (λenv M=>ev B Φ cut y _ (λe env M=>K (e,env,M)) env M) (λe env M=>K (e,env,M)) p.1 p.2.1 p.2.2) (λp=>?_);obtain⟨e,env',M'⟩:=p
  cases e with
  |nm=>exact iC cut hno y _ env' M'
  |ex _|rt|go _=>exact Tri.sel _
 |.seq x y,.s a b,env,M=>by
  simp only[ev];refine (iC cut hno x _ env M).bind (F:=λK p=>m9 (λenv M=>ev B Φ cut y _ (λe env M=>K (e,env,M)) env M) (λe env M=>K (e,env,M)) p.1 p.2.1 p.2.2) (λp=>?_);obtain⟨e,env',M'⟩:=p
  cases e with
  |nm=>exact iC cut hno y _ env' M'
  |ex _|rt|go _=>exact Tri.sel _
 |.seq x y,.l a b d f,env,M=>by
  simp only[ev];refine (iC cut hno x _ env M).bind (F:=λK p=>m9 (λenv M=>ev B Φ cut y _ (λe env M=>K (e,env,M)) env M) (λe env M=>K (e,env,M)) p.1 p.2.1 p.2.2) (λp=>?_);obtain⟨e,env',M'⟩:=p
  cases e with
  |nm=>exact iC cut hno y _ env' M'
  |ex _|rt|go _=>exact Tri.sel _
 |.region id ops draw,_,env,M=>by
  have hK:∀p:EM,Tri (λK:EX->Prop=>K (Ex.nm,clr p.1,p.2)):=λp=>Tri.sel _;have hT:∀(all:bY)(l:bY)(env:Env)(M:Mem),Tri (λK:EX->Prop=>twG B Φ all l env M (λenv M=>K (Ex.nm,clr env,M))):=λall l env M=>(AD all l Φ env M).bind (F:=λK p=>K (Ex.nm,clr p.1,p.2)) hK;have hH:∀(D:fw)(M:Mem)(all l1 l2:bY)(env:Env),Tri (λK:EX->Prop=>hx D [] [] B Φ M l1 env [] (λenv X=>bif nogd env then twG B Φ all l2 env (ap X M) (λenv M=>K (Ex.nm,clr env,M))else False)):=λD M all l1 l2 env=>(AX [] [] M D l1 env []).bind (F:=λK p=>bif nogd p.1 then twG B Φ all l2 p.1 (ap p.2 M) (λenv M=>K (Ex.nm,clr env,M))else False) (λp=>Tri.bif (hT _ _ _ _) Tri.no _);simp only[ev]
  cases draw with
  |false=>refine Tri.bif (Tri.bif ((AB (toL ops) (toL ops) env M).bind (F:=λK p=>K (.nm,clr p.1,p.2)) hK) Tri.no _) (Tri.bif ?_ (Tri.bif (hT _ _ _ _) Tri.no _) _) _;exact (Sf (toL ops) (toL ops) env M).bind (F:=λK p=>K (Ex.nm,clr p.1,p.2)) hK
  |true=>
   rw[hno id];simp only[bp];refine Tri.bif ?_ (Tri.bif ?_ (Tri.bif ?_ (Tri.bif ?_ (Tri.bif ?_ ?_ _) _) _) _) _
   ·exact (afd (toL ops) _ []).bind (F:=λK p=>K (Ex.nm,clr p.1,ap p.2 _)) (λp=>Tri.sel _)
   ·exact Tri.bif ((AX (FH (cut id)) [] M _ _ env []).bind (F:=λK p=>bif nob (nogd p.1) (lH (FH (cut id)) [] B Φ (my (dD (hrC (cut id)) (toL ops)) (mC (cut id))) (mz (dD (hrC (cut id)) (toL ops)) (mC (cut id))) (gu (mC (cut id)) (dD (hrC (cut id)) (toL ops))) p.1 (ap p.2 M))then twG B Φ (dD (hrC (cut id)) (toL ops)) (gu (mC (cut id)) (dD (hrC (cut id)) (toL ops))) p.1 (ap p.2 M) (λenv M=>K (Ex.nm,clr env,M))else False) (λp=>Tri.bif (hT _ _ _ _) Tri.no _)) Tri.no _
   ·generalize (bif Nat.ble 5000 (cut id)then xK env (toL ops)else [])=as;generalize (bif FC (cut id)then js [] (t6 env (toL ops)) M env else (env,M))=q;obtain⟨env1,M1⟩:=q;exact Tri.bif ((AX [] as M1 _ _ env1 []).bind (F:=λK p=>bif nob (nogd p.1) (lH [] as B Φ (my (dD false (toL ops)) (Nat.sub (cut id) (vN (cut id)))) (mz (dD false (toL ops)) (Nat.sub (cut id) (vN (cut id)))) (gu (Nat.sub (cut id) (vN (cut id))) (dD false (toL ops))) p.1 (ap p.2 M1))then twG B Φ (dD false (toL ops)) (gu (Nat.sub (cut id) (vN (cut id))) (dD false (toL ops))) p.1 (ap p.2 M1) (λenv M=>K (Ex.nm,clr env,M))else False) (λp=>Tri.bif (hT _ _ _ _) Tri.no _)) Tri.no _
   ·generalize js [] (AQ env (toL ops)) M env=q;obtain⟨env1,M1⟩:=q;exact Tri.bif ((AX (Φ:=vS Φ) [] [] M1 [] _ env1 []).bind (F:=λK p=>bif nogd p.1 then twG B (vS Φ) (toL ops) (gu (Nat.sub (cut id) 1000) (toL ops)) p.1 (ap p.2 M1) (λenv M=>K (Ex.nm,clr env,M))else False) (λp=>Tri.bif ((AD (toL ops) _ (vS Φ) _ _).bind (F:=λK p=>K (Ex.nm,clr p.1,p.2)) hK) Tri.no _)) Tri.no _
   ·exact Tri.bif (hH _ _ _ _ _ _) Tri.no _
   ·exact Tri.bif ((JH _ _ _ env M).bind (F:=λK env=>twG B Φ (toL ops) (gu (cut id) (toL ops)) env M (λenv M=>K (Ex.nm,clr env,M))) (λenv=>hT _ _ _ _)) Tri.no _
 |.cond (.tmp t) x y,.j ss os ks A,env,M=>by
  simp only[ev];refine Tri.bif ?_ Tri.no _;have hj:=λp=>DH (R:=EX) ss os (λK=>onK ss os ks env (λe env M=>K (e,env,M))) (Tm ss os ks env) (λK p=>K p) (λp=>Tri.sel p) p
  exact Tri.cnd ((iC cut hno x A.fst env M).bind (F:=λK p=>kh ss os (onK ss os ks env (λe env M=>K (e,env,M))) (λe env M=>K (e,env,M)) p.1 p.2.1 p.2.2) hj)
   ((iC cut hno y A.snd env M).bind (F:=λK p=>kh ss os (onK ss os ks env (λe env M=>K (e,env,M))) (λe env M=>K (e,env,M)) p.1 p.2.1 p.2.2) hj) _
 |.cond (.tmp t) x y,.n,env,M|.cond (.tmp t) x y,.s _ _,env,M|.cond (.tmp t) x y,.l _ _ _ _,env,M=>by simp only[ev];exact Tri.bif (Tri.cnd (iC cut hno x _ env M) (iC cut hno y _ env M) _) Tri.no _
 |.block id c,.j ss os ks A,env,M=>by
  simp only[ev];refine Tri.bif ?_ Tri.no _;refine (iC cut hno c A env M).bind (F:=λK p=>qd id (kh ss os (onK ss os ks env (λe env M=>K (e,env,M))) (λe env M=>K (e,env,M))) p.1 p.2.1 p.2.2) (λp=>?_);have hj:=λp=>DH (R:=EX) ss os (λK=>onK ss os ks env (λe env M=>K (e,env,M))) (Tm ss os ks env) (λK p=>K p) (λp=>Tri.sel p) p;obtain⟨e,env',M'⟩:=p
  cases e with
  |nm=>exact hj (Ex.nm,env',M')
  |ex i=>simp only[qd];exact Tri.bif (hj (Ex.nm,env',M')) (hj (Ex.ex i,env',M')) _
  |rt=>exact hj (Ex.rt,env',M')
  |go l=>exact hj (Ex.go l,env',M')
 |.block id c,.n,env,M=>tri_blk cut id c .n env M (iC cut hno c .n env M)
 |.block id c,.s a b,env,M=>tri_blk cut id c (.s a b) env M (iC cut hno c (.s a b) env M)
 |.block id c,.l a b d e,env,M=>tri_blk cut id c (.l a b d e) env M (iC cut hno c (.l a b d e) env M)
 |.loop c,.l ss os ks A,env,M=>by
  simp only[ev];refine Tri.bif ?_ Tri.no _;split
  ·rename_i q hq;refine O_ (λ(K:EX->Prop) (s:gZ ss×fo os) next=>imps (okS ss s.1) (imps (okO os s.2) (ev B Φ cut c A (kh ss os next (λe env M=>K (e,env,M))) (ap (pX ss s.1) (nA q.2 ks)) (dV os s.2)))) (λs=>?_) q.1;refine Tri.imps (Tri.imps ?_ _) _
   exact (iC cut hno c A _ _).bind (F:=λ(P:((gZ ss×fo os) ⊕ EX)->Prop) p=>kh ss os (λs'=>P (.inl s')) (λe env M=>P (.inr (e,env,M))) p.1 p.2.1 p.2.2)
    (DH (R:=(gZ ss×fo os) ⊕ EX) ss os (λP s'=>P (Sum.inl s')) (λs'=>Tri.sel _) (λP p=>P (Sum.inr p)) (λp=>Tri.sel _))
  ·exact Tri.no
 |.loop c,.n,env,M|.loop c,.s _ _,env,M|.loop c,.j _ _ _ _,env,M|.cond (.const _) _ _,_,_,_|.cond (.func _) _ _,_,_,_|.cond (.global _) _ _,_,_,_|.rangeFunc _ _ _ _,_,_,_|.refuse _,_,_,_=>by simp only[ev];exact Tri.no
where
 tri_blk (cut:nK) (id:Nat) (c:Code) (A:Ann) (env:Env) (M:Mem) (h:Tri (λK:EX->Prop=>ev B Φ cut c A (λe env M=>K (e,env,M)) env M)):Tri (λK:EX->Prop=>ev B Φ cut c A (qd id (λe env M=>K (e,env,M))) env M):=by
  refine h.bind (F:=λK p=>qd id (λe env M=>K (e,env,M)) p.1 p.2.1 p.2.2) (λp=>?_);obtain⟨e,env',M'⟩:=p
  cases e with
  |nm=>exact Tri.sel _
  |ex i=>simp only[qd];exact Tri.bif (Tri.sel (Ex.nm,env',M')) (Tri.sel (Ex.ex i,env',M')) _
  |rt|go _=>exact Tri.sel _
def reT:T->Bool
 |.int _|.bool|.str|.u=>true
 |.p a b=>nob (reT a) (reT b)
 |.sl e=>reT e
 |.pt t=>reT t
 |_=>false
def World.put(w:aK)(us:aJ):World:={ w with heap:=w.heap.push (.cells us.toArray 0 (0,0)) }
theorem qU(w:aK)(us:aJ):(World.put w us).heap.size=w.heap.size+1:=by simp[World.put]
theorem x5(w:aK)(us:aJ)(b:Nat)(h:b<w.heap.size):(World.put w us).heap[b]? = w.heap[b]?:=by simp only[World.put];rw[yY,ai aa]
theorem R7(w:aK)(us:aJ):(World.put w us).heap[w.heap.size]? = some (.cells us.toArray 0 (0,0)):=by simp only[World.put];rw[yY,am rfl]
theorem Pa(w:aK)(us:aJ)(o:Nat)(vs:aJ)(h:∀(j:Nat)(u:bm),vs[j]? = some u->us[o+j]? = some u):iW (World.put w us) w.heap.size o vs:=by intro j u hu;simp only[World.cell?,R7];simpa using h j u hu
theorem QJ{n:Nat}:∀(vss:List (List Value)),(∀us∈vss,us.length=n)->∀(i:Nat)(us:aJ),vss[i]? = some us->∀(j:Nat)(u:bm),us[j]? = some u->vss.flatten[i*n+j]? = some u
 |[],_,i,us,h,_,_,_=>by simp at h
 |vs::vss,hl,0,us,h,j,u,hj=>by simp only[jG,aG]at h;subst h;rw[ww,Nat.zero_mul,jC,g9 (gN.1 hj).1];exact hj
 |vs::vss,hl,i+1,us,h,j,u,hj=>by simp only[oR]at h;have:=QJ vss (λus hu=>hl us (oV _ hu)) i us h j u hj;have hv:=hl vs (oW ..);rw[ww,jD (by rw[hv,Nat.succ_mul];omega),hv,show (i+1)*n+j-n=i*n+j by rw[Nat.succ_mul];omega];exact this
abbrev lt(w:aK):Nat->Prop:=λb=>b<w.heap.size
theorem As{w w':aK}(h1:w.heap.size<=w'.heap.size)(h2:∀b,b<w.heap.size->w'.heap[b]? = w.heap[b]?):cN (lt w) (lt w') w w':=λb hb=>⟨iA hb h1,h2 b hb⟩
theorem UA{e:T}(ih:∀(x:e.den),e.ok x->∀w:World,∃w' vs,w.heap.size<=w'.heap.size/\(∀b,b<w.heap.size->w'.heap[b]? = w.heap[b]?)/\ah (lt w') w' e x vs) :
  (l:List e.den)->(∀y∈l,e.ok y)->∀w:World,∃w',∃vss:List (List Value),w.heap.size<=w'.heap.size/\(∀b,b<w.heap.size->w'.heap[b]? = w.heap[b]?)/\vss.length=l.length/\∀(i:Nat)(x:e.den)(us:aJ),l[i]? = some x->vss[i]? = some us->ah (lt w') w' e x us
 |[],_,w=>⟨w,[],aZ _,λ_ _=>rfl,rfl,λi x us h=>by simp at h⟩
 |x::l,h,w=>by
  obtain⟨w1,vs,a1,a2,a3⟩:=ih x (h x (oW ..)) w;obtain⟨w2,vss,b1,b2,b3,b4⟩:=UA ih l (λy hy=>h y (oV _ hy)) w1;refine⟨w2,vs::vss,eu a1 b1,λb hb=>(b2 b (iA hb a1)).trans (a2 b hb),by simp[b3],λi y us hi hu=>?_⟩
  cases i with
  |zero=>simp only[jG,aG]at hi hu;subst hi;subst hu;exact ah.keep (As b1 b2) _ _ _ a3
  |succ i=>exact b4 i y us (by simpa using hi) (by simpa using hu)
theorem rep:(t:T)->reT t=true->(x:t.den)->t.ok x->∀w:World,∃w' vs,w.heap.size<=w'.heap.size/\(∀b,b<w.heap.size->w'.heap[b]? = w.heap[b]?)/\ah (lt w') w' t x vs
 |.int k,_,x,h,w=>⟨w,[.int k x],aZ _,λ_ _=>rfl,by simp only[ah,aL];exact h⟩
 |.bool,_,x,h,w=>⟨w,[.bool x],aZ _,λ_ _=>rfl,by simp only[ah]⟩
 |.str,_,x,h,w=>⟨w,[.string x],aZ _,λ_ _=>rfl,by simp only[ah,aL];exact h⟩
 |.u,_,x,h,w=>⟨w,[],aZ _,λ_ _=>rfl,by simp only[ah]⟩
 |.p a b,hr,x,h,w=>by simp only[reT,aU,ao]at hr;obtain⟨w1,va,a1,a2,a3⟩:=rep a hr.1 x.1 h.1 w;obtain⟨w2,vb,b1,b2,b3⟩:=rep b hr.2 x.2 h.2 w1;refine⟨w2,va++vb,eu a1 b1,λc hc=>(b2 c (iA hc a1)).trans (a2 c hc),?_⟩;simp only[ah];exact⟨va,vb,rfl,ah.keep (As b1 b2) _ _ _ a3,b3⟩
 |.pt t,hr,x,h,w=>by obtain⟨w1,vs,a1,a2,a3⟩:=rep t hr x h w;refine⟨World.put w1 vs,[.pointer (some ⟨w1.heap.size,0,none⟩)],by rw[qU];omega,λb hb=>by rw[x5 _ _ _ aa];exact a2 b hb,?_⟩;simp only[ah];refine⟨w1.heap.size,0,vs,rfl,by simp only[lt,qU];omega,Pa _ _ _ _ (λj u hu=>by rw[jC];exact hu),?_⟩;exact ah.keep (As (by rw[qU];omega) (λb hb=>x5 _ _ b hb)) _ _ _ a3
 |.sl e,hr,l,h,w=>by
  have h':l.length<=nb/\∀y∈l,e.ok y:=h;obtain⟨w1,vss,a1,a2,a3,a4⟩:=UA (rep e hr) l h'.2 w;have hlen:∀us∈vss,us.length=e.size:=λus hu=>by obtain⟨i,hi,rfl⟩:=mL hu;exact ah.len _ _ _ (a4 i (l[i]' aa) _ (bX aa) (bX hi))
  refine⟨World.put w1 vss.flatten,[.slice (some ⟨w1.heap.size,0,none⟩) l.length l.length],by rw[qU];omega,λb hb=>by rw[x5 _ _ _ aa];exact a2 b hb,?_⟩;simp only[ah];refine⟨some ⟨w1.heap.size,0,none⟩,l.length,rfl,⟨h'.1,aZ _⟩,(λh=>nomatch h),λa ha hp=>?_⟩;cases ha;refine⟨rfl,by simp only[lt,qU];omega,λi x hx=>?_⟩;have hi:=(gN.1 hx).1;have hv:vss[i]? = some (vss[i]' aa):=bX aa;refine⟨_,Pa _ _ _ (vss[i]' aa) (λj u hu=>?_),ah.keep (As (by rw[qU];omega) (λb hb=>x5 _ _ b hb)) _ _ _ (a4 i x _ hx hv)⟩;rw[jC];exact QJ vss hlen i _ hv j u hu
 |.fn _ _,hr,_,_,_|.ifc _ _,hr,_,_,_|.ib _ _,hr,_,_,_|.mp _ _,hr,_,_,_|.op _,hr,_,_,_|.ns _,hr,_,_,_|.er _,hr,_,_,_|.any,hr,_,_,_=>by simp[reT]at hr
theorem Ac:(t:T)->(x:t.den)->ab (t.oks x)->t.ok x
 |.int _,x,h=>h.1
 |.bool,_,_=>trivial
 |.str,x,h=>h.1
 |.u,_,_|.any,_,_=>trivial
 |.p a b,x,h=>by simp only[T.oks,fW]at h;exact⟨Ac a x.1 h.1,Ac b x.2 h.2⟩
 |.sl _,x,h=>h.1
 |.pt t,x,h|.fn _ t,x,h|.ifc _ t,x,h|.ib _ t,x,h=>Ac t x h
 |.mp _ _,x,h|.op _,x,h|.ns _,x,h=>h.1
 |.er _,x,h=>trivial
def reL:List Bool->List T->Bool
 |[],[]=>true
 |g::gs,t::ts=>aP [reT t,orb g (Nat.beq t.size 1),reL gs ts]
 |_,_=>false
theorem ON{A A':aT}{w w':aK}(h:cN A A' w w'):(gs:fw)->(ts:eT)->(x:bo ts)->(us:aJ)->dL A w gs ts x us->dL A' w' gs ts x us
 |[],[],_,us,r=>by simpa only [dL]using r
 |[],_::_,_,_,r|_::_,[],_,_,r=>by simp[dL]at r
 |g::gs,t::ts,x,us,r=>by simp only[dL]at r⊢;obtain⟨u,us',vs,h1,h2,h3,h4,h5⟩:=r;exact⟨u,us',vs,h1,h2,h3,ah.keep h _ _ _ h4,ON h gs ts x.2 us' h5⟩
theorem Js:(gs:fw)->(ts:eT)->reL gs ts=true->(x:bo ts)->ab (okL ts x)->∀w:World,∃w' us,w.heap.size<=w'.heap.size/\(∀b,b<w.heap.size->w'.heap[b]? = w.heap[b]?)/\dL (lt w') w' gs ts x us
 |[],[],_,_,_,w=>⟨w,[],aZ _,λ_ _=>rfl,by simp only[dL]⟩
 |[],_::_,h,_,_,_|_::_,[],h,_,_,_=>by simp[reL]at h
 |g::gs,t::ts,h,x,hx,w=>by
  simp only[reL,bQ,bT,bM,ao]at h;obtain⟨h1,h2,h3⟩:=h;simp only[okL,fW]at hx;obtain⟨w1,vs,a1,a2,a3⟩:=rep t h1 x.1 (Ac _ _ hx.1) w;obtain⟨w2,us,b1,b2,b3⟩:=Js gs ts h3 x.2 hx.2 w1;have k:=As b1 b2;have hk:=ah.keep k _ _ _ a3
  cases g with
  |true=>refine⟨w2,.agg vs.toArray::us,eu a1 b1,λc hc=>(b2 c (iA hc a1)).trans (a2 c hc),?_⟩;simp only[dL];exact⟨_,us,vs,rfl,λ_=>rfl,(λh=>nomatch h),hk,b3⟩
  |false=>
   simp only[gD,yH]at h2;have hl:=(ah.len _ _ _ a3).trans (dh h2)
   match vs,hl with
   |[u],_=>refine⟨w2,u::us,eu a1 b1,λc hc=>(b2 c (iA hc a1)).trans (a2 c hc),?_⟩;simp only[dL];exact⟨u,us,[u],rfl,(λh=>nomatch h),λ_=>rfl,hk,b3⟩
def okR:(rs:gS)->bV rs->List Prop
 |[],_=>[]
 |q::rs,x=>ap (q.2.strip.oks x.1) (okR rs x.2)
theorem Sq{w:aK}(o:O)(x:o.strip.den)(S:aT)(vs:aJ)(h:Rel Im w o x S vs):ab (o.strip.oks x):=kA _ _ (ah.ok _ _ _ (Rel.frz (Im':=λ_=>True) (λ_ _=>trivial) o x S vs (λ_ _=>trivial) h))
theorem J8{Im:aT}{w:aK}:(rs:gS)->(x:bV rs)->(S:aT)->(us:aJ)->cW Im w rs x S us->ab (okR rs x)
 |[],_,_,_,_=>trivial
 |q::rs,x,S,us,h=>by simp only[cW]at h;obtain⟨u,us',vs,S1,S2,_,_,_,_,_,_,h7,h8⟩:=h;simp only[okR,fW];exact⟨Sq _ _ _ _ h7,J8 rs _ _ _ h8⟩
def dfR:(rs:gS)->bV rs
 |[]=>()
 |q::rs=>(q.2.strip.dflt,dfR rs)
theorem acs(B:Tab)(rs:List ResultVar)(rt:gS):(p:EX)->Tri (λK:bV rt->Prop=>vU B rs rt K p.1 p.2.1 p.2.2)
 |(.nm,env,M)=>by
  simp only[vU,BF];split
  ·exact Tri.sel _
  ·exact Tri.no
 |(.rt,env,M)=>by
  simp only[vU,BF];split
  ·exact Tri.sel _
  ·exact Tri.no
 |(.ex _,env,M)|(.go _,env,M)=>Tri.no
def Bz:List (Nat×Nat)->Bool
 |[]=>true
 |(_,c)::r=>nob (neg (Nat.beq c 999998)) (Bz r)
theorem K9:{l:List (Nat×Nat)}->Bz l=true->∀i,Nat.beq (fN l i) 999998=false
 |[],_,i=>rfl
 |(k,c)::r,h,i=>by
  simp only[Bz,aU,ao]at h;unfold fN
  cases Nat.beq k i with
  |true=>
   have h1:=h.1
   cases hb:Nat.beq c 999998 with
   |true=>rw[hb]at h1;cases h1
   |false=>exact hb
  |false=>exact K9 h.2 i
theorem SC(B:Tab)(Φ:dM)(cut:nK)(hno:∀i,Nat.beq (cut i) 999998=false)(fn:Func)(c:Code)(A:Ann)(ct:Ct)(x:bo ct.args):Tri (evF B Φ cut fn c A ct x):=(iC (B:=B) (Φ:=Φ) cut hno c A (kV 0 (gJ B (toL fn.params) ct.args x)) []).bind (F:=λK p=>vU B (toL fn.results) ct.rt K p.1 p.2.1 p.2.2) (acs B (toL fn.results) ct.rt)
theorem aad(B:Tab)(rs:List ResultVar)(W:Wt):(p:EX)->Tri (λK:W.o.strip.den×bV W.rt->Prop=>BU B rs W (λz r=>K (z,r)) p.1 p.2.1 p.2.2)
 |(.nm,env,M)=>by
  simp only[BU,Bg];split
  ·split
   ·split
    ·split
     ·exact Tri.sel _
     ·exact Tri.no
    ·exact Tri.no
   ·exact Tri.no
  ·exact Tri.no
 |(.rt,env,M)=>by
  simp only[BU,Bg];split
  ·split
   ·split
    ·split
     ·exact Tri.sel _
     ·exact Tri.no
    ·exact Tri.no
   ·exact Tri.no
  ·exact Tri.no
 |(.ex _,env,M)|(.go _,env,M)=>Tri.no
theorem PG(B:Tab)(Φ:dM)(cut:nK)(hno:∀i,Nat.beq (cut i) 999998=false)(fn:Func)(c:Code)(A:Ann)(W:Wt)(x:W.o.strip.den)(y:bo W.as):Tri (λK:W.o.strip.den×bV W.rt->Prop=>kP B Φ cut fn c A W x y (λz r=>K (z,r))):=(iC (B:=B) (Φ:=Φ) cut hno c A _ _).bind (F:=λK p=>BU B (toL fn.results) W (λz r=>K (z,r)) p.1 p.2.1 p.2.2) (aad B (toL fn.results) W)
theorem adm (hΦ : gK P Φ) (hB : TabOk P B) (hmix : P.follows .mixedOrders = true)    (hf : P.funcs[f]? = some fn) (hb : fn.body = some c) (hn : (fn.name == "runtime.NumGoroutine") = false) (ct : Ct) (A : Ann) (cut : Nat -> Nat) (hno : ∀ i, Nat.beq (cut i) 999998 = false) (hE : ∃ w0 : World, ErrG P (lt w0) w0)
  (hga:ct.ga=agL B fn) (hfl:orb ct.sh (oz ct.rt)=true) (hck:okC fn.ntmps cut c=true) (hlen:ct.ga.length<=fn.ntmps) (hre:reL ct.ga ct.args=true) (Q:bo ct.args->bV ct.rt->Prop)
  (h:∀x,ab (okL ct.args x)->ab (ct.pre x)->evF B Φ cut fn c A ct x (Q x)) (x:bo ct.args) :
  ∃r,ab (okL ct.args x)->ab (ct.pre x)->evF B Φ cut fn c A ct x (λr'=>r'=r)/\ab (okR ct.rt r)/\Q x r:=by
 by_cases h1:ab (okL ct.args x)
 case neg=>exact⟨ct.res x,λh=>absurd h h1⟩
 by_cases h2:ab (ct.pre x)
 case neg=>exact⟨ct.res x,λ_ h=>absurd h h2⟩
 have go:∀Q:bV ct.rt->Prop,evF B Φ cut fn c A ct x Q->∃r,Q r/\ab (okR ct.rt r):=λQ hq=>by
  obtain⟨w0,hw0⟩:=hE;obtain⟨w,us,a1,a2,k3⟩:=Js ct.ga ct.args hre x h1 w0
  obtain⟨e,w',fr,⟨r,rs,S,q1,_,_,_,q2⟩,_⟩:=Uo hB hf hb hn { ct with pre:=λy=>[y=x] } (λy r=>y=x->Q r) hga hfl hlen
   (λy _ hy F p a w hG e1 e2 hst=>lA hΦ hB hmix cut c F hG A _ _ _ (by rw[e1];exact hck) (by rw[e2];exact sN c) (by have hyx:y=x:=hy.1;rw[hyx];exact (SC B Φ cut hno fn c A ct x).mono (λr h _=>h) hq) p a w hst) (lt w) w us x (hw0.of λb hb hl=>⟨iA hl a1,a2 b hl⟩) (λb hb=>hb) k3 ⟨rfl,trivial⟩ []
  exact⟨r,q1 rfl,J8 _ _ _ _ q2⟩
 rcases SC B Φ cut hno fn c A ct x with h3|h3|⟨r,h3⟩
 ·exact (h3 _ (h x h1 h2)).elim
 ·obtain⟨r,hr,_⟩:=go (λ_=>False) (h3 _);exact hr.elim
 ·refine⟨r,λ_ _=>⟨(h3 _).2 rfl,?_,(h3 _).1 (h x h1 h2)⟩⟩;obtain⟨r',e,ho⟩:=go (λr'=>r'=r) ((h3 _).2 rfl);subst e;exact ho
theorem abx (hΦ : gK P Φ) (hB : TabOk P B) (hmix : P.follows .mixedOrders = true)    (hf : P.funcs[f]? = some fn) (hb : fn.body = some c) (hn : (fn.name == "runtime.NumGoroutine") = false) (W : Wt) (A : Ann) (cut : Nat -> Nat) (hno : ∀ i, Nat.beq (cut i) 999998 = false) (hE : ∃ w0 : World, ErrG P (lt w0) w0)
  (hro:nr W.o=true) (hi:W.i<=W.ag.length) (hga:ew W.i false W.ag=agL B fn) (hck:okC fn.ntmps cut c=true) (hlen:W.ag.length+1<=fn.ntmps) (hnw:noW [W.i] c=true) (hre:reL W.ag W.as=true) (t:T) (hot:W.o=.pt (.fz t)) (hrt:reT t=true)
  (Q:W.o.strip.den->bo W.as->W.o.strip.den->bV W.rt->Prop)
  (h:∀x y,ab (W.o.strip.oks x)->ab (okL W.as y)->ab (W.pre x y)->kP B Φ cut fn c A W x y (Q x y)) (x:W.o.strip.den) (y:bo W.as) :
  ∃q:W.o.strip.den×bV W.rt,ab (W.o.strip.oks x)->ab (okL W.as y)->ab (W.pre x y)->kP B Φ cut fn c A W x y (λz r=>z=q.1/\r=q.2)/\ab (W.o.strip.oks q.1)/\ab (okR W.rt q.2)/\Q x y q.1 q.2:=by
 by_cases h1:ab (W.o.strip.oks x)
 case neg=>exact⟨(W.new x y,W.res x y),λh=>absurd h h1⟩
 by_cases h2:ab (okL W.as y)
 case neg=>exact⟨(W.new x y,W.res x y),λ_ h=>absurd h h2⟩
 by_cases h3:ab (W.pre x y)
 case neg=>exact⟨(W.new x y,W.res x y),λ_ _ h=>absurd h h3⟩
 have go:∀Q:W.o.strip.den->bV W.rt->Prop,kP B Φ cut fn c A W x y Q->∃z r,Q z r/\ab (W.o.strip.oks z)/\ab (okR W.rt r):=λQ hq=>by
  obtain⟨w0,hw0⟩:=hE;obtain⟨w1,us,a1,a2,k3⟩:=Js W.ag W.as hre y h2 w0;have hroot:∀(o:O)(x:o.strip.den),o=.pt (.fz t)->ab (o.strip.oks x)->∃w2 u,w1.heap.size<=w2.heap.size/\(∀b,b<w1.heap.size->w2.heap[b]? = w1.heap[b]?)/\∃S A:Nat->Prop,(∀b,b<w1.heap.size->A b)/\(∀b,A b->b<w2.heap.size)/\(∀b,S b->b<w2.heap.size/\¬A b)/\Rel A w2 o x S [u]:=by rintro o x rfl h1;obtain⟨w2,vs,a1,a2,a3⟩:=rep t hrt x (Ac _ _ h1) w1;refine⟨World.put w2 vs,.pointer (some ⟨w2.heap.size,0,none⟩),by rw[qU];omega,λb hb=>by rw[x5 _ _ _ aa];exact a2 b hb,λb=>b=w2.heap.size,lt w2,λb hb=>by simp only[lt];omega,λb hb=>by rw[qU];simp only[lt]at hb;omega,λb hb=>by subst hb;rw[qU];simp only[lt];omega,?_⟩;simp only[Rel];exact⟨w2.heap.size,vs,0,λ_=>False,rfl,rfl,R7 _ _,λc h=>h.elim,ah.keep (λb hb=>⟨hb,x5 _ _ b hb⟩) _ _ _ a3⟩
  obtain⟨w2,u,b1,b2,S,A',c1,c2,c3,c4⟩:=hroot W.o x hot h1
  obtain⟨e,w',fr,⟨z,r,rs,R,S',q1,_,_,_,_,q2,q3⟩,_⟩:=wt_q hΦ hB hmix hf hb hn W (λx' y'=>x'=x/\y'=y) (λx' y' z r=>x'=x->y'=y->Q z r) A cut hro hi hga hck hlen hnw
   (λx' y' _ _ hy=>by have e1:x'=x:=hy.1;have e2:y'=y:=hy.2;rw[e1,e2];exact (PG B Φ cut hno fn c A W x y).mono (K:=λp=>Q p.1 p.2) (K':=λp=>x=x->y=y->Q p.1 p.2) (λr h _ _=>h) hq) A' w2 u x us y S (hw0.of λb hb hl=>⟨c1 b (iA hl a1),(b2 b (iA hl a1)).trans (a2 b hl)⟩) c2 c3 c4 (ON (λb hb=>⟨c1 b hb,b2 b hb⟩) _ _ _ _ k3) ⟨rfl,rfl⟩ []
  exact⟨z,r,q1 rfl rfl,Sq _ _ _ _ q2,J8 _ _ _ _ q3⟩
 rcases PG B Φ cut hno fn c A W x y with h4|h4|⟨q,h4⟩
 ·exact (h4 (λp=>Q x y p.1 p.2) (h x y h1 h2 h3)).elim
 ·obtain⟨z,r,hr,_⟩:=go (λ_ _=>False) (h4 (λ_=>False));exact hr.elim
 ·have e1:=(h4 (λp=>p.1=q.1/\p.2=q.2)).2 ⟨rfl,rfl⟩;refine⟨q,λ_ _ _=>⟨e1,?_⟩⟩;obtain⟨z,r,⟨rfl,rfl⟩,o1,o2⟩:=go (λz r=>z=q.1/\r=q.2) e1;exact⟨o1,o2,(h4 (λp=>Q x y p.1 p.2)).1 (h x y h1 h2 h3)⟩
theorem acx (hΦ : gK P Φ) (hB : TabOk P B) (hmix : P.follows .mixedOrders = true)    (hf : P.funcs[f]? = some fn) (hb : fn.body = some c) (hn : (fn.name == "runtime.NumGoroutine") = false) (ct : Ct) (A : Ann) (cut : Nat -> Nat) (hno : ∀ i, Nat.beq (cut i) 999998 = false) (hE : ∃ w0 : World, ErrG P (lt w0) w0)
  (hga:ct.ga=agL B fn) (hfl:orb ct.sh (oz ct.rt)=true) (hck:okC fn.ntmps cut c=true) (hlen:ct.ga.length<=fn.ntmps) (hre:reL ct.ga ct.args=true)
  (W:bo ct.args->(bV ct.rt->Prop)->Prop) (hw:∀x K,evF B Φ cut fn c A ct x K=W x K) (Q:bo ct.args->bV ct.rt->Prop)
  (hm:∀x,ab (okL ct.args x)->ab (ct.pre x)->W x (Q x)) (x:bo ct.args) :
  ∃r,ab (okL ct.args x)->ab (ct.pre x)->W x (λr'=>r'=r)/\ab (okR ct.rt r)/\Q x r:=by
 obtain⟨r,h⟩:=adm hΦ hB hmix hf hb hn ct A cut hno hE hga hfl hck hlen hre Q (λx h1 h2=>(hw x _).mpr (hm x h1 h2)) x;exact⟨r,λh1 h2=>⟨(hw x _).mp (h h1 h2).1,(h h1 h2).2⟩⟩
theorem ac0 (hΦ : gK P Φ) (hB : TabOk P B) (hmix : P.follows .mixedOrders = true)    (hf : P.funcs[f]? = some fn) (hb : fn.body = some c) (hn : (fn.name == "runtime.NumGoroutine") = false) (W : Wt) (A : Ann) (cut : Nat -> Nat) (hno : ∀ i, Nat.beq (cut i) 999998 = false) (hE : ∃ w0 : World, ErrG P (lt w0) w0)
  (hro:nr W.o=true) (hi:W.i<=W.ag.length) (hga:ew W.i false W.ag=agL B fn) (hck:okC fn.ntmps cut c=true) (hlen:W.ag.length+1<=fn.ntmps) (hnw:noW [W.i] c=true) (hre:reL W.ag W.as=true) (t:T) (hot:W.o=.pt (.fz t)) (hrt:reT t=true)
  (V:W.o.strip.den->bo W.as->(W.o.strip.den->bV W.rt->Prop)->Prop) (hw:∀x y K,kP B Φ cut fn c A W x y K=V x y K)
  (Q:W.o.strip.den->bo W.as->W.o.strip.den->bV W.rt->Prop)
  (hm:∀x y,ab (W.o.strip.oks x)->ab (okL W.as y)->ab (W.pre x y)->V x y (Q x y)) (x:W.o.strip.den) (y:bo W.as) :
  ∃q:W.o.strip.den×bV W.rt,ab (W.o.strip.oks x)->ab (okL W.as y)->ab (W.pre x y)->V x y (λz r=>z=q.1/\r=q.2)/\ab (W.o.strip.oks q.1)/\ab (okR W.rt q.2)/\Q x y q.1 q.2:=by
 obtain⟨q,h⟩:=abx hΦ hB hmix hf hb hn W A cut hno hE hro hi hga hck hlen hnw hre t hot hrt Q (λx y h1 h2 h3=>(hw x y _).mpr (hm x y h1 h2 h3)) x y;exact⟨q,λh1 h2 h3=>⟨(hw x y _).mp (h h1 h2 h3).1,(h h1 h2 h3).2⟩⟩
theorem P9  (et : TypeId) (h : (match (P.cutTypes.find? (·.1 == "internal/reflectlite.rtype")).map (·.2) with | some _ => Nat.ble (et + 1) P.types.size && P.rowNamed et [101, 114, 114, 111, 114] | none => false) = true) : ∃ w0 : World, ErrG P (lt w0) w0 := by
 cases hr : (P.cutTypes.find? (·.1 == "internal/reflectlite.rtype")).map (·.2) with
 |none=>rw[hr]at h;cases h
 |some rt=>
  rw[hr]at h;simp only[ao]at h
  cases hg : P.globalNamed "errors.errorType" with
  |none=>exact⟨default,λg hg'=>by cases hg.symm.trans hg'⟩
  |some g=>
   refine⟨{ (default:aK)with heap:=(Array.replicate g (Obj.cells #[] 0 (0,0))).push (.cells #[.iface rt (.agg #[typeHandle P et])] 0 (0,0)) },λg' hg'=>?_⟩;cases hg.symm.trans hg';refine⟨by simp[lt],rt,et,hr,ia h.1,h.2,?_⟩;have e:((Array.replicate g (Obj.cells #[] 0 (0,0))).push (.cells #[.iface rt (.agg #[typeHandle P et])] 0 (0,0)))[g]? = some (.cells #[.iface rt (.agg #[typeHandle P et])] 0 (0,0)):=by rw[yY];simp
   simp only[World.cell?,e];rfl
theorem Fp    (hΦ : gK P Φ) (hB : TabOk P B) (hmix : P.follows .mixedOrders = true)    (hf : P.funcs[f]? = some fn) (hb : fn.body = some c) (hn : (fn.name == "runtime.NumGoroutine") = false) (W : Wt) (A : Ann) (cut : Nat -> Nat)
  (hro:nr W.o=true) (hi:W.i<=W.ag.length) (hga:ew W.i false W.ag=agL B fn) (hck:okC fn.ntmps cut c=true) (hlen:W.ag.length+1<=fn.ntmps) (hnw:noW [W.i] c=true)
  (V:W.o.strip.den->bo W.as->(W.o.strip.den->bV W.rt->Prop)->Prop) (hw:∀x y K,kP B Φ cut fn c A W x y K=V x y K)
  (h:∀x y,ab (W.o.strip.oks x)->ab (okL W.as y)->ab (W.pre x y)->V x y (λz r=>z=W.new x y/\r=W.res x y)):aN P f (iO W):=
 TZ hΦ hB hmix hf hb hn W A cut hro hi hga hck hlen hnw λx y h1 h2 h3=>(hw x y _).mpr (h x y h1 h2 h3)
section
variable {F:Fr}{p:Ow}{w:aK}
def spC(s:Sp):Ct:=⟨[],[],λ_=>[],[],λ_=>(),false,some (.s s)⟩
theorem B9(h1:aN P f (fO s true))(h0:aN P f (fO s false)):aN P f (spC s):=⟨h1.1,h1.2,h0.2⟩
end
abbrev cS:T:=(.p (.int .i64) (.p (.sl (.int .i64)) (.p (.sl (.int .i64)) (.p (.sl (.int .i64)) (.sl (.sl (.int .i64)))))))
abbrev aF:Type:=Int×((List Int)×((List Int)×((List Int)×(List (List Int)))))
abbrev iI:O:=(.p (.fz (.int .i64)) (.p (.sl (.fz (.int .i64))) (.p (.sl (.fz (.int .i64))) (.p (.sl (.fz (.int .i64))) (.sl (.sl (.fz (.int .i64))))))))
abbrev Lx:T:=(.p (.int .i64) (.p (.int .i64) (.sl (.int .i64))))
abbrev JF:Type:=Int×(Int×(List Int))
abbrev eH:T:=(.p (.int .i64) (.sl (.int .i64)))
abbrev aO:Type:=Int×(List Int)
abbrev Bl:O:=(.p (.fz (.int .i64)) (.sl (.fz (.int .i64))))
abbrev fV:T:=(.p (.int .i64) (.p (.sl (.int .i64)) (.p (.sl (.int .i64)) (.p (.sl eH) (.sl eH)))))
abbrev aB:Type:=Int×((List Int)×((List Int)×((List aO)×(List aO))))
abbrev Zi:T:=(.p (.mp .str (.int .i64)) (.p (.sl (.int .i64)) (.sl eH)))
abbrev cF:Type:=(List (ByteArray×Int))×((List Int)×(List aO))
abbrev lw:T:=(.p (.pt fV) (.p cS (.p (.sl (.int .i64)) (.sl eH))))
abbrev agq:T:=(.p (.int .i64) (.int .i64))
abbrev af6:Type:=Int×Int
abbrev Zj:Type:=aF×((List Int)×(List (Int×(Int×Int))))
abbrev lU:T:=(.p (.sl (.int .u8)) (.p (.int .i64) (.int .u64)))
abbrev ba:Type:=(List Int)×(Int×Int)
abbrev NU:T:=(.p cS (.p (.sl eH) (.sl (.int .i64))))
abbrev uK:Type:=aF×((List aO)×(List Int))
def inR(n lo hi:Int):Bool:=decide (lo<=n)&&decide (n<=hi)
theorem iD{lo hi:Int}:inR n lo hi=true<->lo<=n/\n<=hi:=by simp[inR]
def bD(l:aw)(n:Int):Bool:=l.all λy=>inR y 0 (n-1)
theorem fF:bD l n=true<->∀i:Int,0<=i->i<l.length->0<=l.getD i.toNat 0/\l.getD i.toNat 0<n:=by
 simp only[bD,eU,inR,ao,cj];constructor
 ·intro h i h0 h1;have:=h _ (cC l 0 h0 h1);omega
 ·intro h x hx;obtain⟨k,hk,rfl⟩:=mL hx;have:=h k aa aa;rw[bB,bN,bX hk]at this;simp only[dY]at this;omega
theorem OD{α β:Type}{B:Nat}{f:α->List β}:∀{L:List α},(∀l∈L,(f l).length<=B)->(L.flatMap f).length<=L.length*B
 |[],_=>ak
 |l::L,h=>by have h1:=h l ak;have h2:=OD (L:=L) λx hx=>h x (by simp[hx]);simp only[List.flatMap_cons,bj,aH,jk];omega
def gQ:Nat->(Int->Bool)->Bool
 |0,_=>true
 |n+1,p=>gQ n p&&p n
theorem tb{p:rN}:∀{n:Nat},gQ n p=true<->∀i:Int,0<=i->i<n->p i=true
 |0=>by simp only[gQ,true_iff];intro i h0 h1;omega
 |n+1=>by
  simp only[gQ,ao,tb (n:=n)];constructor
  ·rintro⟨h1,h2⟩ i h0 hi;by_cases e:i=n
   ·rw[e];exact h2
   ·exact h1 i h0 aa
  ·intro h;exact⟨λi h0 h1=>h i h0 aa,h n aa aa⟩
def fK{α:Type}(p:Int->Option α):Nat->Int->Option α
 |0,_=>none
 |k+1,i=>match p i with|some r=>some r|none=>fK p k (i+1)
theorem tC{p:Int->Option α}{r:α}(h:i<n)(hp:p i=some r):fK p (n-i).toNat i=some r:=by rw[show (n-i).toNat=(n-(i+1)).toNat+1 from by omega,fK,hp]
theorem t8{p:Int->Option α}(h:i<n)(hp:p i=none):fK p (n-i).toNat i=fK p (n-(i+1)).toNat (i+1):=by rw[show (n-i).toNat=(n-(i+1)).toNat+1 from by omega,fK,hp]
theorem tz{p:Int->Option α}:fK p (n-n).toNat n=none:=by rw[show (n-n).toNat=0 from by omega,fK]
theorem tB{p:Int->Option α}{n:Nat}:fK p n 0=fK p ((n:Int)-0).toNat 0:=by rw[show ((n:Int)-0).toNat=n from by omega]
def orR:Option α->α->α
 |some x,_=>x
 |none,y=>y
def lG:Nat->(Int->Bool)->List Int
 |0,_=>[]
 |n+1,p=>if p n=true then lG n p++[(n:Int)]else lG n p
theorem Kd{p:rN}:∀n:Nat,(lG n p).length<=n
 |0=>aZ _
 |n+1=>by
  have:=Kd (p:=p) n;unfold lG;split
  ·rw[bj];simp;omega
  ·omega
theorem JW{p:rN}{x:Int}:∀{n:Nat},x∈lG n p<->0<=x/\x<n/\p x=true
 |0=>by simp only[lG,w8,false_iff];omega
 |n+1=>by
  unfold lG;split
  ·rename_i h;rw[dN,JW,cP];constructor
   ·rintro (⟨a,b,c⟩|rfl)
    ·exact⟨a,aa,c⟩
    ·exact⟨aa,aa,h⟩
   ·rintro⟨a,b,c⟩;by_cases e:x=n
    ·exact .inr e
    ·exact .inl ⟨a,aa,c⟩
  ·rename_i h;rw[JW];constructor
   ·rintro⟨a,b,c⟩;exact⟨a,aa,c⟩
   ·rintro⟨a,b,c⟩;by_cases e:x=n
    ·subst e;exact absurd c h
    ·exact⟨a,aa,c⟩
theorem ly(l:List α)(k y:Nat)(x d:α)(hk:k<l.length):(l.set k x).getD y d=if k=y then x else l.getD y d:=by
 rw[bN,bN,wm];split
 ·rename_i h;subst h;simp[hk]
 ·rfl
def be{α:Type}:Nat->(Int->α)->List α
 |0,_=>[]
 |n+1,f=>be n f++[f n]
theorem bG{α:Type}{f:Int->α}:∀n:Nat,(be n f).length=n
 |0=>rfl
 |n+1=>by simp[be,bG n]
theorem gC{f:Int->α}(h0:0<=i):be (i+1).toNat f=be i.toNat f++[f i]:=by rw[show (i+1).toNat=i.toNat+1 from by omega,be,show ((i.toNat:Nat):Int)=i from by omega]
theorem iJ{α:Type}{f:Int->α}{d:α}{i:Int}:∀{n:Nat},0<=i->i<n->(be n f).getD i.toNat d=f i
 |0,h0,h1=>aa
 |n+1,h0,h1=>by
  unfold be;by_cases e:i=n
  ·subst e;rw[bN,jD (by rw[bG];omega),bG];simp
  ·rw[bN,g9 (by rw[bG];omega),←bN];exact iJ h0 aa
theorem ij{α:Type}{f:Int->α}{x:α}:∀{n:Nat},x∈be n f<->∃i:Int,0<=i/\i<n/\x=f i
 |0=>by simp only[be,w8,false_iff];rintro⟨i,h0,h1,_⟩;omega
 |n+1=>by
  unfold be;rw[dN,ij,cP];constructor
  ·rintro (⟨i,h0,h1,h⟩|h)
   ·exact⟨i,h0,aa,h⟩
   ·exact⟨n,aa,aa,h⟩
  ·rintro⟨i,h0,h1,h⟩;by_cases e:i=n
   ·subst e;exact .inr h
   ·exact .inl ⟨i,h0,aa,h⟩
theorem dJ{α:Type}{f g:Int->α}:∀{n:Nat},(∀i:Int,0<=i->i<n->f i=g i)->be n f=be n g
 |0,_=>rfl
 |n+1,h=>by unfold be;rw[h n aa aa,dJ λi h0 h1=>h i h0 aa]
theorem qY{α:Type}(x:α):∀n:Nat,List.replicate n x=be n λ_=>x
 |0=>rfl
 |n+1=>by rw[Gk,be,qY x n]
theorem mb{α:Type}{f:Int->α}{x:α}{k:Int}:∀{n:Nat},0<=k->k<n->(be n f).set k.toNat x=be n λy=>if y=k then x else f y
 |0,h0,h1=>aa
 |n+1,h0,h1=>by
  unfold be;by_cases e:k=n
  ·subst e;rw[List.set_append,ai (by rw[bG];omega),bG];simp only[bB,Nat.sub_self,Gg,eX];rw[dJ (g:=λy=>if y=(n:Int)then x else f y) λi i0 i1=>by rw[ai aa]]
  ·rw[List.set_append,am (by rw[bG];omega),mb h0 aa];dsimp only;rw[ai (dg e)]
theorem bh{n b:Nat}(h:(n+m)*b<=140737488355328):aX n m b:=by unfold aX;rw[bO];exact h
def fe:Nat->(Int->Bool)->Bool
 |0,_=>false
 |n+1,p=>fe n p||p n
theorem KC(h0:0<=i):fe (i+1).toNat p=(fe i.toNat p||p i):=by rw[show (i+1).toNat=i.toNat+1 from by omega,fe,show ((i.toNat:Nat):Int)=i from by omega]
theorem K7(h0:0<=i):gQ (i+1).toNat p=(gQ i.toNat p&&p i):=by rw[show (i+1).toNat=i.toNat+1 from by omega,gQ,show ((i.toNat:Nat):Int)=i from by omega]
theorem po(F:Int->α){i0:Int}{a0:α}{body:(Unit×(Int×Unit))×(α×Unit)->((Unit×(Int×Unit))×(α×Unit)->Prop)->Prop}(hn:i0<=n)(h0:a0=F i0)(hs:∀i next,i0<=i->i<n->next (((),(i+1,())),(F (i+1),()))->body (((),(i,())),(F i,())) next)(he:∀next,body (((),(n,())),(F n,())) next):aI body (((),(i0,())),(a0,())):=by
 refine aY (λs=>s.2.1=F s.1.2.1/\i0<=s.1.2.1/\s.1.2.1<=n) (λs=>(n-s.1.2.1).toNat) ?_ ⟨h0,cB _,hn⟩;rintro⟨⟨_,i,_⟩,y,_⟩ next ⟨hy,h1,h2⟩ hnx
 dsimp only at hy h1 h2 hnx;subst hy;by_cases e:i=n
 ·subst e;exact he next
 ·exact hs i next h1 aa (hnx _ ⟨rfl,ae,ae⟩ ae)
theorem OI(n:Nat)(p:rN)(hs:∀(i:Int) next,0<=i->i<n->(p i=false->gQ n p=false)->(p i=true->next ((i+1,()),()))->body ((i,()),()) next)(he:∀next,gQ n p=true->body (((n:Int),()),()) next):aI body ((0,()),()):=by
 refine il (n:=n) (λi=>gQ i.toNat p=true) aa rfl ?_ ?_
 ·intro i next i0 i1 hP hn
  rw[K7 i0,hP,ji]at hn;refine hs i next i0 i1 (λh=>?_) hn
  cases hb:gQ n p with
  |false=>rfl
  |true=>rw[tb.1 hb i i0 i1]at h;cases h
 ·intro next hP
  exact he next hP
theorem Q3{β:Type}(l:List α)(d:α)(g:α->List β)(A:List β)(B:Nat)(hB:∀x∈l,(g x).length<=B){body:(Unit×(Int×Unit))×(List β×Unit)->((Unit×(Int×Unit))×(List β×Unit)->Prop)->Prop}(hs:∀(i:Int)(out:List β) next,0<=i->i<l.length->out.length+(g (l.getD i.toNat d)).length<=A.length+l.length*B->next (((),(i+1,())),(out++g (l.getD i.toNat d),()))->body (((),(i,())),(out,())) next)(he:∀next,body (((),((l.length:Int),())),(A++l.flatMap g,())) next):aI body (((),(0,())),(A,())):=by
 refine po (λi=>A++(l.take i.toNat).flatMap g) (n:=l.length) aa ak ?_ ?_
 ·intro i next i0 i1 hn
  have hk:(l.take (i+1).toNat).flatMap g=(l.take i.toNat).flatMap g++g (l.getD i.toNat d):=by rw[fY l d i0 i1,List.flatMap_append];simp
  rw[hk,←eP]at hn;refine hs i _ next i0 i1 ?_ hn
  have h1:=@OD α β B g (l.take (i+1).toNat) λx hx=>hB x (List.mem_of_mem_take hx);rw[hk,bj]at h1;have h2:(l.take (i+1).toNat).length<=l.length:=by rw[ez];omega
  have h3:=kw B h2;rw[bj];omega
 ·intro next
  rw[jv _ (cB _)];exact he next
theorem abc{k:(Unit×Unit)×(List α×Unit)->Prop}{f:((Unit×Unit)×(List α×Unit)->Prop)->Prop}(r:List α)(hk:∀s,s.2.1=r->k s)(hf:∀k',(∀s:List α,s=r->k' (((),()),(s,())))->f k'):bZ k f:=cp (λs=>s.2.1=r) hk λk' h=>hf k' λs hs=>h _ hs
theorem adb{l:List α}{i:Nat}:(oL l i).length=l.length:=by simp[oL]
theorem aca{l:List α}{i:Nat}{y:α}:vP ((oL l i).set i (some y))=true:=by
 simp only[vP,oL,eU,List.set_set];intro x hx;rcases List.mem_or_eq_of_mem_set hx with h|h
 ·obtain⟨z,_,rfl⟩:=jJ.1 h;rfl
 ·rw[h];rfl
theorem ab2{z:α}{l:List α}{i:Nat}{y:α}:kS z ((oL l i).set i (some y))=l.set i y:=by
 simp only[kS,oL,List.set_set,List.map_set,dY,List.map_map];congr 1
 conv=>rhs;rw[←List.map_id l]
 exact List.map_congr_left λx _=>rfl
theorem Q9{k v:T}{x y:k.den}{z:v.den}:∀{l:List (k.den×v.den)},jw k v (eI k v l x z) y=if eqR k y x=true then z else jw k v l y
 |[]=>by unfold jw;simp only[eI];rw[jq];split<;>rfl
 |e::r=>by
  have ih:=@Q9 k v x y z r;unfold jw at ih⊢;simp only[eI];by_cases h:eqR k x e.1=true
  ·rw[am h,jq,jq];have e1:=gi.1 h;rw[←e1];split<;>rfl
  ·rw[ai h,jq,jq];by_cases h2:eqR k y e.1=true
   ·rw[am h2,am h2,ai]
    ·intro h3;rw[gi]at h2 h3;exact h (gi.2 (h3▸h2))
   ·rw[ai h2,ai h2];exact ih
theorem X_{k v:T}{x:k.den}{z:v.den}{l:List (k.den×v.den)}:(eI k v l x z).length<=l.length+1:=(@E3 k v l x z l).1
theorem PJ{k v:T}{x:k.den}{z:v.den}:∀{l:List (k.den×v.den)},x∉l.map (·.1)->(eI k v l x z).length=l.length+1
 |[],_=>rfl
 |e::r,h=>by simp only[gO,cQ,not_or]at h;simp only[eI];rw[ai (λh1=>h.1 (gi.1 h1))];simp only[aH,@PJ k v x z r h.2]
theorem V'(d:α):∀l:List α,be l.length (λi=>l.getD i.toNat d)=l:=by intro l;refine List.ext_getElem (bG _) λk h1 h2=>?_;rw[bG]at h1;have:=@iJ α (λi=>l.getD i.toNat d) d (k:Int) l.length aa aa;rw[bB,bN,bX (by rw[bG];exact h1),bN,bX h1]at this;exact this
end Go.Bm
