/- The typed machine that the walks of this claim go by: its data, its operations and the proof that each is sound. No condition. -/
import Derived.Test.YtimfdllgcnabjaaGreatBmFive
import Derived.ScopeJumps
set_option linter.unusedVariables false
set_option linter.unusedSimpArgs false
set_option linter.unusedSectionVars false
/- The ff machine:what a walk asks picks one end:so a law that bounds the results names them. -/
namespace Go.Bm
open Go.RowKit
abbrev a32:=@List.replicate_succ'
abbrev a4j:=@List.set_cons_zero
abbrev a33:=@List.filter_append
abbrev a2r:=@List.filter_cons
abbrev a47:=@List.filter_nil
abbrev a4k:=@List.length_filter_le
abbrev a48:=@List.mem_or_eq_of_mem_set
def Tri{R:Type}(X:(R->Prop)->Prop):Prop:=(∀K,¬X K)\/(∀K,X K)\/∃r,∀K,X K<->K r
section
variable {R R':Type}
theorem Tri.no:Tri (fun _:R->Prop=>False):=.inl fun _ h=>h
theorem Tri.sel(r:R):Tri (fun K:R->Prop=>K r):=.inr (.inr ⟨r,fun _=>a17⟩)
theorem Tri.bind{X:(R->Prop)->Prop}(h:Tri X){F:(R'->Prop)->R->Prop}(hF:∀r,Tri (fun K=>F K r)):Tri (fun K=>X (F K)):=by
 rcases h with h|h|⟨r,h⟩
 ·exact .inl fun K=>h _
 ·exact .inr (.inl fun K=>h _)
 ·have:(fun K=>X (F K))=(fun K=>F K r):=funext fun K=>propext (h _);rw[this];exact hF r
theorem Tri.mono{X:(R->Prop)->Prop}(h:Tri X){K K':R->Prop}(hk:∀r,K r->K' r)(hx:X K):X K':=by
 rcases h with h|h|⟨r,h⟩
 ·exact (h _ hx).elim
 ·exact h _
 ·exact (h _).2 (hk _ ((h _).1 hx))
theorem Tri.conj{X:(R->Prop)->Prop}(h:Tri X):(l:List Prop)->Tri (fun K=>conj l (X K))
 |[]=>h
 |p::l=>by
  by_cases hp:p
  ·have:(fun K=>Bm.conj (p::l) (X K))=(fun K=>Bm.conj l (X K)):=funext fun K=>propext ⟨fun h=>h.2,fun h=>⟨hp,h⟩⟩;rw[this];exact Tri.conj h l
  ·exact .inl fun K hk=>hp hk.1
theorem Tri.imp{X:(R->Prop)->Prop}(h:Tri X)(g:Prop)(l:List Prop):Tri (fun K=>imp g l (X K)):=by
 cases l with
 |nil=>exact h
 |cons p l=>
  by_cases hp:g->Bm.conj l p
  ·have:(fun K=>Bm.imp g (p::l) (X K))=X:=funext fun K=>propext ⟨fun h=>h.2,fun h=>⟨hp,h⟩⟩;rw[this];exact h
  ·exact .inl fun K hk=>hp hk.1
theorem Tri.imps{X:(R->Prop)->Prop}(h:Tri X):(l:List Prop)->Tri (fun K=>imps l (X K))
 |[]=>h
 |p::l=>by
  by_cases hp:p
  ·have:(fun K=>Bm.imps (p::l) (X K))=(fun K=>Bm.imps l (X K)):=funext fun K=>propext ⟨fun h=>h hp,fun h _=>h⟩;rw[this];exact Tri.imps h l
  ·exact .inr (.inl fun K hk=>absurd hk hp)
theorem Tri.cnd{X Y:(R->Prop)->Prop}(hx:Tri X)(hy:Tri Y)(b:Bool):Tri (fun K=>cnd b (X K) (Y K)):=by
 cases b with
 |true=>have:(fun K=>Bm.cnd true (X K) (Y K))=X:=funext fun K=>propext ⟨fun h=>h.1 rfl,fun h=>⟨fun _=>h,fun h=>nomatch h⟩⟩;rw[this];exact hx
 |false=>have:(fun K=>Bm.cnd false (X K) (Y K))=Y:=funext fun K=>propext ⟨fun h=>h.2 rfl,fun h=>⟨fun h=>(nomatch h),fun _=>h⟩⟩;rw[this];exact hy
theorem Tri.bif{X Y:(R->Prop)->Prop}(hx:Tri X)(hy:Tri Y)(b:Bool):Tri (fun K=>bif b then X K else Y K):=by
 cases b with
 |true=>exact hx
 |false=>exact hy
theorem axo{S:Type}(body:(R->Prop)->S->(S->Prop)->Prop)(h:∀s,Tri (fun P:(S ⊕ R)->Prop=>body (fun r=>P (.inr r)) s (fun s'=>P (.inl s')))):∀(n:Nat)(s:S),Tri (fun K=>xw (body K) n s)
 |0,s=>Tri.no
 |n+1,s=>(h s).bind (F:=fun K p=>match p with|.inl s'=>xw (body K) n s'|.inr r=>K r) (fun p=>by
   cases p with
   |inl s'=>exact axo body h n s'
   |inr r=>exact Tri.sel r)
theorem bnb{S:Type}(body:(R->Prop)->S->(S->Prop)->Prop)(h:∀s,Tri (fun P:(S ⊕ R)->Prop=>body (fun r=>P (.inr r)) s (fun s'=>P (.inl s'))))(K:R->Prop):∀(n:Nat)(s:S),xw (body K) n s->xw (body K) (n+1) s
 |0,s,hi=>hi.elim
 |n+1,s,hi=>(h s).mono (K:=fun p=>match p with|.inl s'=>xw (body K) n s'|.inr r=>K r) (K':=fun p=>match p with|.inl s'=>xw (body K) (n+1) s'|.inr r=>K r) (fun p hp=>by
   cases p with
   |inl s'=>exact bnb body h K n s' hp
   |inr r=>exact hp) hi
theorem bmu{S:Type}(body:(R->Prop)->S->(S->Prop)->Prop)(h:∀s,Tri (fun P:(S ⊕ R)->Prop=>body (fun r=>P (.inr r)) s (fun s'=>P (.inl s'))))(K:R->Prop)(s:S){n m:Nat}(hnm:n<=m)(hi:xw (body K) n s):xw (body K) m s:=by
 induction hnm with
 |refl=>exact hi
 |step _ ih=>exact bnb body h K _ s ih
theorem bu4{S:Type}(body:(R->Prop)->S->(S->Prop)->Prop)(h:∀s,Tri (fun P:(S ⊕ R)->Prop=>body (fun r=>P (.inr r)) s (fun s'=>P (.inl s'))))(s:S):Tri (fun K=>bn (body K) s):=by
 by_cases hv:∃n,∀K,xw (body K) n s
 ·obtain⟨n,hn⟩:=hv;exact .inr (.inl fun K=>⟨n,hn K⟩)
 by_cases hs:∃n r,∀K,xw (body K) n s<->K r
 ·obtain⟨n,r,hn⟩:=hs;refine .inr (.inr ⟨r,fun K=>⟨fun⟨m,hm⟩=>?_,fun hk=>⟨n,(hn K).2 hk⟩⟩⟩);have h1:=bmu body h K s (Nat.le_max_left m n) hm;have h2:=bmu body h (fun x=>x=r) s (Nat.le_max_right m n) ((hn _).2 rfl);rcases axo body h (max m n) s with h3|h3|⟨r',h3⟩
  ·exact (h3 _ h1).elim
  ·exact (hv ⟨_,h3⟩).elim
  ·have:r'=r:=(h3 (fun x=>x=r)).1 h2;subst this;exact (h3 K).1 h1
 ·refine .inl fun K ⟨m,hm⟩=>?_;rcases axo body h m s with h3|h3|⟨r',h3⟩
  ·exact h3 _ hm
  ·exact hv ⟨_,h3⟩
  ·exact hs ⟨m,r',h3⟩
end
section
variable {B:Tab} {Φ:FuncId->Option Ct} {R:Type}
abbrev EM:=Env×Mem
abbrev EX:=Ex×Env×Mem
theorem av2(all:List Oper):(ops:List Oper)->(Φ:FuncId->Option Ct)->(env:Env)->(M:Mem)->Tri (fun K:EM->Prop=>twG B Φ all ops env M (fun env M=>K (env,M)))
 |[],Φ,env,M=>Tri.sel (env,M)
 |o::rest,Φ,env,M=>by
  simp only[twG];split
  ·exact Tri.bif Tri.no ((av2 all rest Φ _ _).conj _) _
  ·split
   ·exact Tri.bif ((av2 all rest Φ _ _).imp _ _) Tri.no _
   ·exact Tri.no
theorem bcm(all tl:List Oper):(ops:List Oper)->(env:Env)->(M:Mem)->Tri (fun K:Env->Prop=>dwG B Φ all tl ops env M K)
 |[],env,M=>Tri.sel env
 |o::rest,env,M=>by
  simp only[dwG];split
  ·exact Tri.bif ((bcm all tl rest _ _).conj _) Tri.no _
  ·split
   ·exact Tri.bif ((bcm all tl rest _ _).imp _ _) Tri.no _
   ·exact Tri.no
theorem cbc(all:List Oper):(ops:List Oper)->(env:Env)->(M:Mem)->Tri (fun K:EM->Prop=>twS B Φ all ops env M (fun env M=>K (env,M))):=fun _ _ _=>Tri.no
theorem Tri.ifP{X Y:(R->Prop)->Prop}(hx:Tri X)(hy:Tri Y)(p:Prop):Tri (fun K=>ifP p (X K) (Y K)):=by
 by_cases hp:p
 ·have:(fun K=>Bm.ifP p (X K) (Y K))=X:=funext fun K=>propext ⟨fun h=>h.1 hp,fun h=>⟨fun _=>h,fun h=>absurd hp h⟩⟩;rw[this];exact hx
 ·have:(fun K=>Bm.ifP p (X K) (Y K))=Y:=funext fun K=>propext ⟨fun h=>h.2 hp,fun h=>⟨fun h=>absurd h hp,fun _=>h⟩⟩;rw[this];exact hy
theorem ap2(all:List Oper):(ops:List Oper)->(env:Env)->(M:Mem)->Tri (fun K:EM->Prop=>twQ B Φ all ops env M (fun env M=>K (env,M)))
 |[],env,M=>Tri.sel (env,M)
 |o::rest,env,M=>by
  simp only[twQ];split
  ·exact Tri.bif Tri.no ((ap2 all rest _ _).conj _) _
  ·split
   ·exact Tri.bif (Tri.bif ((ap2 all rest _ _).imp _ _) (Tri.bif Tri.no (Tri.ifP ((ap2 all rest _ _).conj _) (ap2 all rest _ _) _) _) _) Tri.no _
   ·exact Tri.no
theorem bbj:(ops:List Oper)->(env:Env)->(X:Mem)->Tri (fun K:EM->Prop=>bx B Φ ops env X (fun env M=>K (env,M)))
 |[],env,X=>Tri.sel (env,X)
 |o::r,env,X=>by
  simp only[bx];split
  ·unfold bxA;exact Tri.bif (bbj r _ _) Tri.no _
  ·unfold bxS;split
   ·refine Tri.bif ?_ Tri.no _;split
    ·exact bbj r _ _
    ·exact Tri.no
   ·exact Tri.no
  ·unfold bxP;refine Tri.bif ?_ Tri.no _;split
   ·exact (bbj r _ _).conj _
   ·exact Tri.no
  ·exact Tri.no
theorem auh(ks as:List Nat)(M0:Mem):(D:List Bool)->(ops:List Oper)->(env:Env)->(X:Mem)->Tri (fun K:EM->Prop=>hx D ks as B Φ M0 ops env X (fun env M=>K (env,M)))
 |D,[],env,X=>Tri.sel (env,X)
 |D,o::r,env,X=>by
  simp only[hx];split
  ·refine Tri.bif ?_ Tri.no _;exact Tri.bif ((auh ks as M0 (ala D) r _ _).conj _) Tri.no _
  ·exact Tri.no
theorem bsf(ss:Shs)(os:Obs)(ks:List Nat)(env:Env)(s:wv ss×rn os):Tri (fun K:EX->Prop=>onK ss os ks env (fun e env M=>K (e,env,M)) s):=Tri.imps (Tri.imps (Tri.sel (Ex.nm,_,_)) _) _
theorem buu{R:Type}(ss:Shs)(os:Obs)(env:Env)(M:Mem)(F:(R->Prop)->wv ss×rn os->Prop)(hF:∀s,Tri (fun K=>F K s)):Tri (fun K=>bbe ss os env M (F K)):=by
 unfold bbe;split
 ·exact hF _
 ·exact Tri.no
theorem ar1{R:Type}(ss:Shs)(os:Obs)(F:(R->Prop)->wv ss×rn os->Prop)(hF:∀s,Tri (fun K=>F K s))(G:(R->Prop)->EX->Prop)(hG:∀p,Tri (fun K=>G K p)):(p:EX)->Tri (fun K=>yo ss os (F K) (fun e env M=>G K (e,env,M)) p.1 p.2.1 p.2.2)
 |(.nm,env,M)=>buu ss os env M F hF
 |(.ex id,env,M)=>hG (.ex id,env,M)
 |(.rt,env,M)=>hG (.rt,env,M)
 |(.go l,env,M)=>hG (.go l,env,M)
theorem n5(cut:Nat->Nat)(hno:∀i,Nat.beq (cut i) 999998=false):(c:Code)->(A:Ann)->(env:Env)->(M:Mem)->Tri (fun K:EX->Prop=>ev B Φ cut c A (fun e env M=>K (e,env,M)) env M)
 |.skip,_,env,M=>Tri.sel (Ex.nm,env,M)
 |.ret,_,env,M=>Tri.sel (Ex.rt,env,M)
 |.exit id,_,env,M=>Tri.sel (Ex.ex id,env,M)
 |.goto l,_,env,M=>Tri.sel (Ex.go l,env,M)
 |.label _,_,env,M=>Tri.sel (Ex.nm,env,M)
 |.scope c,A,env,M=>by
  simp only[ev];refine (n5 cut hno c A env M).bind (F:=fun K p=>scpK (fun e env M=>K (e,env,M)) p.1 p.2.1 p.2.2) (fun p=>?_);obtain⟨e,env',M'⟩:=p
  cases e with
  |nm|ex _|rt=>exact Tri.sel _
  |go _=>exact Tri.no
 |.seq x y,.j ss os ks A,env,M=>by
  simp only[ev];refine Tri.bif ?_ Tri.no _
  have hs:∀p:EX,Tri (fun K:EX->Prop=>ah0 (fun env M=>ev B Φ cut y A.snd (fun e env M=>K (e,env,M)) env M) (fun e env M=>K (e,env,M)) p.1 p.2.1 p.2.2):=fun p=>by
   obtain⟨e,env',M'⟩:=p
   cases e with
   |nm=>exact n5 cut hno y A.snd env' M'
   |ex _|rt|go _=>exact Tri.sel _
  have hj:=fun p=>ar1 (R:=EX) ss os (fun K=>onK ss os ks env (ah0 (fun env M=>ev B Φ cut y A.snd (fun e env M=>K (e,env,M)) env M) (fun e env M=>K (e,env,M)))) (fun s=>Tri.imps (Tri.imps (hs (Ex.nm,_,_)) _) _) (fun K p=>ah0 (fun env M=>ev B Φ cut y A.snd (fun e env M=>K (e,env,M)) env M) (fun e env M=>K (e,env,M)) p.1 p.2.1 p.2.2) hs p;exact (n5 cut hno x A.fst env M).bind (F:=fun K p=>yo ss os (onK ss os ks env (ah0 (fun env M=>ev B Φ cut y A.snd (fun e env M=>K (e,env,M)) env M) (fun e env M=>K (e,env,M)))) (ah0 (fun env M=>ev B Φ cut y A.snd (fun e env M=>K (e,env,M)) env M) (fun e env M=>K (e,env,M))) p.1 p.2.1 p.2.2) hj
 |.seq x y,.n,env,M=>by
  simp only[ev];refine (n5 cut hno x _ env M).bind (F:=fun K p=>ah0 (fun env M=>ev B Φ cut y _ (fun e env M=>K (e,env,M)) env M) (fun e env M=>K (e,env,M)) p.1 p.2.1 p.2.2) (fun p=>?_);obtain⟨e,env',M'⟩:=p
  cases e with
  |nm=>exact n5 cut hno y _ env' M'
  |ex _|rt|go _=>exact Tri.sel _
 |.seq x y,.s a b,env,M=>by
  simp only[ev];refine (n5 cut hno x _ env M).bind (F:=fun K p=>ah0 (fun env M=>ev B Φ cut y _ (fun e env M=>K (e,env,M)) env M) (fun e env M=>K (e,env,M)) p.1 p.2.1 p.2.2) (fun p=>?_);obtain⟨e,env',M'⟩:=p
  cases e with
  |nm=>exact n5 cut hno y _ env' M'
  |ex _|rt|go _=>exact Tri.sel _
 |.seq x y,.l a b d f,env,M=>by
  simp only[ev];refine (n5 cut hno x _ env M).bind (F:=fun K p=>ah0 (fun env M=>ev B Φ cut y _ (fun e env M=>K (e,env,M)) env M) (fun e env M=>K (e,env,M)) p.1 p.2.1 p.2.2) (fun p=>?_);obtain⟨e,env',M'⟩:=p
  cases e with
  |nm=>exact n5 cut hno y _ env' M'
  |ex _|rt|go _=>exact Tri.sel _
 |.region id ops draw,_,env,M=>by
  have hK:∀p:EM,Tri (fun K:EX->Prop=>K (Ex.nm,clr p.1,p.2)):=fun p=>Tri.sel _;have hT:∀(all:List Oper)(l:List Oper)(env:Env)(M:Mem),Tri (fun K:EX->Prop=>twG B Φ all l env M (fun env M=>K (Ex.nm,clr env,M))):=fun all l env M=>(av2 all l Φ env M).bind (F:=fun K p=>K (Ex.nm,clr p.1,p.2)) hK;have hH:∀(D:List Bool)(M:Mem)(all l1 l2:List Oper)(env:Env),Tri (fun K:EX->Prop=>hx D [] [] B Φ M l1 env [] (fun env X=>bif nogd env then twG B Φ all l2 env (ap X M) (fun env M=>K (Ex.nm,clr env,M))else False)):=fun D M all l1 l2 env=>(auh [] [] M D l1 env []).bind (F:=fun K p=>bif nogd p.1 then twG B Φ all l2 p.1 (ap p.2 M) (fun env M=>K (Ex.nm,clr env,M))else False) (fun p=>Tri.bif (hT _ _ _ _) Tri.no _);simp only[ev]
  cases draw with
  |false=>refine Tri.bif (Tri.bif ((ap2 (toL ops) (toL ops) env M).bind (F:=fun K p=>K (.nm,clr p.1,p.2)) hK) Tri.no _) (Tri.bif ?_ (Tri.bif (hT _ _ _ _) Tri.no _) _) _;exact (cbc (toL ops) (toL ops) env M).bind (F:=fun K p=>K (Ex.nm,clr p.1,p.2)) hK
  |true=>
   rw[hno id];simp only[a0j];refine Tri.bif ?_ (Tri.bif ?_ (Tri.bif ?_ (Tri.bif ?_ (Tri.bif ?_ ?_ _) _) _) _) _
   ·exact (bbj (toL ops) _ []).bind (F:=fun K p=>K (Ex.nm,clr p.1,ap p.2 _)) (fun p=>Tri.sel _)
   ·exact Tri.bif ((auh (bqg (cut id)) [] M _ _ env []).bind (F:=fun K p=>bif nob (nogd p.1) (ags (bqg (cut id)) [] B Φ (ac6 (gv (hrC (cut id)) (toL ops)) (mC (cut id))) (adt (gv (hrC (cut id)) (toL ops)) (mC (cut id))) (nz (mC (cut id)) (gv (hrC (cut id)) (toL ops))) p.1 (ap p.2 M))then twG B Φ (gv (hrC (cut id)) (toL ops)) (nz (mC (cut id)) (gv (hrC (cut id)) (toL ops))) p.1 (ap p.2 M) (fun env M=>K (Ex.nm,clr env,M))else False) (fun p=>Tri.bif (hT _ _ _ _) Tri.no _)) Tri.no _
   ·generalize (bif Nat.ble 5000 (cut id)then aqr env (toL ops)else [])=as;generalize (bif bqv (cut id)then ql [] (ajd env (toL ops)) M env else (env,M))=q;obtain⟨env1,M1⟩:=q;exact Tri.bif ((auh [] as M1 _ _ env1 []).bind (F:=fun K p=>bif nob (nogd p.1) (ags [] as B Φ (ac6 (gv false (toL ops)) (Nat.sub (cut id) (ayb (cut id)))) (adt (gv false (toL ops)) (Nat.sub (cut id) (ayb (cut id)))) (nz (Nat.sub (cut id) (ayb (cut id))) (gv false (toL ops))) p.1 (ap p.2 M1))then twG B Φ (gv false (toL ops)) (nz (Nat.sub (cut id) (ayb (cut id))) (gv false (toL ops))) p.1 (ap p.2 M1) (fun env M=>K (Ex.nm,clr env,M))else False) (fun p=>Tri.bif (hT _ _ _ _) Tri.no _)) Tri.no _
   ·generalize ql [] (ato env (toL ops)) M env=q;obtain⟨env1,M1⟩:=q;exact Tri.bif ((auh (Φ:=azc Φ) [] [] M1 [] _ env1 []).bind (F:=fun K p=>bif nogd p.1 then twG B (azc Φ) (toL ops) (nz (Nat.sub (cut id) 1000) (toL ops)) p.1 (ap p.2 M1) (fun env M=>K (Ex.nm,clr env,M))else False) (fun p=>Tri.bif ((av2 (toL ops) _ (azc Φ) _ _).bind (F:=fun K p=>K (Ex.nm,clr p.1,p.2)) hK) Tri.no _)) Tri.no _
   ·exact Tri.bif (hH _ _ _ _ _ _) Tri.no _
   ·exact Tri.bif ((bcm _ _ _ env M).bind (F:=fun K env=>twG B Φ (toL ops) (nz (cut id) (toL ops)) env M (fun env M=>K (Ex.nm,clr env,M))) (fun env=>hT _ _ _ _)) Tri.no _
 |.cond (.tmp t) x y,.j ss os ks A,env,M=>by
  simp only[ev];refine Tri.bif ?_ Tri.no _;have hj:=fun p=>ar1 (R:=EX) ss os (fun K=>onK ss os ks env (fun e env M=>K (e,env,M))) (bsf ss os ks env) (fun K p=>K p) (fun p=>Tri.sel p) p
  exact Tri.cnd ((n5 cut hno x A.fst env M).bind (F:=fun K p=>yo ss os (onK ss os ks env (fun e env M=>K (e,env,M))) (fun e env M=>K (e,env,M)) p.1 p.2.1 p.2.2) hj)
   ((n5 cut hno y A.snd env M).bind (F:=fun K p=>yo ss os (onK ss os ks env (fun e env M=>K (e,env,M))) (fun e env M=>K (e,env,M)) p.1 p.2.1 p.2.2) hj) _
 |.cond (.tmp t) x y,.n,env,M|.cond (.tmp t) x y,.s _ _,env,M|.cond (.tmp t) x y,.l _ _ _ _,env,M=>by simp only[ev];exact Tri.bif (Tri.cnd (n5 cut hno x _ env M) (n5 cut hno y _ env M) _) Tri.no _
 |.block id c,.j ss os ks A,env,M=>by
  simp only[ev];refine Tri.bif ?_ Tri.no _;refine (n5 cut hno c A env M).bind (F:=fun K p=>apn id (yo ss os (onK ss os ks env (fun e env M=>K (e,env,M))) (fun e env M=>K (e,env,M))) p.1 p.2.1 p.2.2) (fun p=>?_);have hj:=fun p=>ar1 (R:=EX) ss os (fun K=>onK ss os ks env (fun e env M=>K (e,env,M))) (bsf ss os ks env) (fun K p=>K p) (fun p=>Tri.sel p) p;obtain⟨e,env',M'⟩:=p
  cases e with
  |nm=>exact hj (Ex.nm,env',M')
  |ex i=>simp only[apn];exact Tri.bif (hj (Ex.nm,env',M')) (hj (Ex.ex i,env',M')) _
  |rt=>exact hj (Ex.rt,env',M')
  |go l=>exact hj (Ex.go l,env',M')
 |.block id c,.n,env,M=>tri_blk cut id c .n env M (n5 cut hno c .n env M)
 |.block id c,.s a b,env,M=>tri_blk cut id c (.s a b) env M (n5 cut hno c (.s a b) env M)
 |.block id c,.l a b d e,env,M=>tri_blk cut id c (.l a b d e) env M (n5 cut hno c (.l a b d e) env M)
 |.loop c,.l ss os ks A,env,M=>by
  simp only[ev];refine Tri.bif ?_ Tri.no _;split
  ·rename_i q hq;refine bu4 (fun (K:EX->Prop) (s:wv ss×rn os) next=>imps (okS ss s.1) (imps (okO os s.2) (ev B Φ cut c A (yo ss os next (fun e env M=>K (e,env,M))) (ap (ao8 ss s.1) (kept q.2 ks)) (ml os s.2)))) (fun s=>?_) q.1;refine Tri.imps (Tri.imps ?_ _) _
   exact (n5 cut hno c A _ _).bind (F:=fun (P:((wv ss×rn os) ⊕ EX)->Prop) p=>yo ss os (fun s'=>P (.inl s')) (fun e env M=>P (.inr (e,env,M))) p.1 p.2.1 p.2.2)
    (ar1 (R:=(wv ss×rn os) ⊕ EX) ss os (fun P s'=>P (Sum.inl s')) (fun s'=>Tri.sel _) (fun P p=>P (Sum.inr p)) (fun p=>Tri.sel _))
  ·exact Tri.no
 |.loop c,.n,env,M|.loop c,.s _ _,env,M|.loop c,.j _ _ _ _,env,M|.cond (.const _) _ _,_,_,_|.cond (.func _) _ _,_,_,_|.cond (.global _) _ _,_,_,_|.rangeFunc _ _ _ _,_,_,_|.refuse _,_,_,_=>by simp only[ev];exact Tri.no
where
 tri_blk (cut:Nat->Nat) (id:Nat) (c:Code) (A:Ann) (env:Env) (M:Mem) (h:Tri (fun K:EX->Prop=>ev B Φ cut c A (fun e env M=>K (e,env,M)) env M)):Tri (fun K:EX->Prop=>ev B Φ cut c A (apn id (fun e env M=>K (e,env,M))) env M):=by
  refine h.bind (F:=fun K p=>apn id (fun e env M=>K (e,env,M)) p.1 p.2.1 p.2.2) (fun p=>?_);obtain⟨e,env',M'⟩:=p
  cases e with
  |nm=>exact Tri.sel _
  |ex i=>simp only[apn];exact Tri.bif (Tri.sel (Ex.nm,env',M')) (Tri.sel (Ex.ex i,env',M')) _
  |rt|go _=>exact Tri.sel _
end
end Go.Bm
/- The ff machine:data has a world;a law that bounds the results names them. -/
namespace Go.Bm
open Go.RowKit
def reT:T->Bool
 |.int _|.bool|.str|.u=>true
 |.p a b=>nob (reT a) (reT b)
 |.sl e=>reT e
 |.pt t=>reT t
 |_=>false
def World.put(w:World)(us:List Value):World:={ w with heap:=w.heap.push (.cells us.toArray 0 (0,0)) }
theorem aaa(w:World)(us:List Value):(World.put w us).heap.size=w.heap.size+1:=by simp[World.put]
theorem al0(w:World)(us:List Value)(b:Nat)(h:b<w.heap.size):(World.put w us).heap[b]? = w.heap[b]?:=by simp only[World.put];rw[Array.getElem?_push,ds (by omega)]
theorem bn2(w:World)(us:List Value):(World.put w us).heap[w.heap.size]? = some (.cells us.toArray 0 (0,0)):=by simp only[World.put];rw[Array.getElem?_push,a0a rfl]
theorem bgr(w:World)(us:List Value)(o:Nat)(vs:List Value)(h:∀(j:Nat)(u:Value),vs[j]? = some u->us[o+j]? = some u):pg (World.put w us) w.heap.size o vs:=by intro j u hu;simp only[World.cell?,bn2];simpa using h j u hu
theorem bld{n:Nat}:∀(vss:List (List Value)),(∀us∈vss,us.length=n)->∀(i:Nat)(us:List Value),vss[i]? = some us->∀(j:Nat)(u:Value),us[j]? = some u->vss.flatten[i*n+j]? = some u
 |[],_,i,us,h,_,_,_=>by simp at h
 |vs::vss,hl,0,us,h,j,u,hj=>by simp only[a1u,a0e]at h;subst h;rw[a3p,Nat.zero_mul,a16,a1f (a1i.1 hj).1];exact hj
 |vs::vss,hl,i+1,us,h,j,u,hj=>by simp only[a2i]at h;have:=bld vss (fun us hu=>hl us (a1k _ hu)) i us h j u hj;have hv:=hl vs (a1t ..);rw[a3p,a1s (by rw[hv,Nat.succ_mul];omega),hv,show (i+1)*n+j-n=i*n+j by rw[Nat.succ_mul];omega];exact this
abbrev lt(w:World):Nat->Prop:=fun b=>b<w.heap.size
theorem ajb{w w':World}(h1:w.heap.size<=w'.heap.size)(h2:∀b,b<w.heap.size->w'.heap[b]? = w.heap[b]?):ju (lt w) (lt w') w w':=fun b hb=>⟨a1a hb h1,h2 b hb⟩
theorem byn{e:T}(ih:∀(x:e.den),e.ok x->∀w:World,∃w' vs,w.heap.size<=w'.heap.size/\(∀b,b<w.heap.size->w'.heap[b]? = w.heap[b]?)/\aq (lt w') w' e x vs) :
  (l:List e.den)->(∀y∈l,e.ok y)->∀w:World,∃w',∃vss:List (List Value),w.heap.size<=w'.heap.size/\(∀b,b<w.heap.size->w'.heap[b]? = w.heap[b]?)/\vss.length=l.length/\∀(i:Nat)(x:e.den)(us:List Value),l[i]? = some x->vss[i]? = some us->aq (lt w') w' e x us
 |[],_,w=>⟨w,[],a0k _,fun _ _=>rfl,rfl,fun i x us h=>by simp at h⟩
 |x::l,h,w=>by
  obtain⟨w1,vs,a1,a2,a3⟩:=ih x (h x (a1t ..)) w;obtain⟨w2,vss,b1,b2,b3,b4⟩:=byn ih l (fun y hy=>h y (a1k _ hy)) w1;refine⟨w2,vs::vss,a0z a1 b1,fun b hb=>(b2 b (a1a hb a1)).trans (a2 b hb),by simp[b3],fun i y us hi hu=>?_⟩
  cases i with
  |zero=>simp only[a1u,a0e]at hi hu;subst hi;subst hu;exact aq.keep (ajb b1 b2) _ _ _ a3
  |succ i=>exact b4 i y us (by simpa using hi) (by simpa using hu)
theorem rep:(t:T)->reT t=true->(x:t.den)->t.ok x->∀w:World,∃w' vs,w.heap.size<=w'.heap.size/\(∀b,b<w.heap.size->w'.heap[b]? = w.heap[b]?)/\aq (lt w') w' t x vs
 |.int k,_,x,h,w=>⟨w,[.int k x],a0k _,fun _ _=>rfl,by simp only[aq,a0f];exact h⟩
 |.bool,_,x,h,w=>⟨w,[.bool x],a0k _,fun _ _=>rfl,by simp only[aq]⟩
 |.str,_,x,h,w=>⟨w,[.string x],a0k _,fun _ _=>rfl,by simp only[aq,a0f];exact h⟩
 |.u,_,x,h,w=>⟨w,[],a0k _,fun _ _=>rfl,by simp only[aq]⟩
 |.p a b,hr,x,h,w=>by simp only[reT,be,a0b]at hr;obtain⟨w1,va,a1,a2,a3⟩:=rep a hr.1 x.1 h.1 w;obtain⟨w2,vb,b1,b2,b3⟩:=rep b hr.2 x.2 h.2 w1;refine⟨w2,va++vb,a0z a1 b1,fun c hc=>(b2 c (a1a hc a1)).trans (a2 c hc),?_⟩;simp only[aq];exact⟨va,vb,rfl,aq.keep (ajb b1 b2) _ _ _ a3,b3⟩
 |.pt t,hr,x,h,w=>by obtain⟨w1,vs,a1,a2,a3⟩:=rep t hr x h w;refine⟨World.put w1 vs,[.pointer (some ⟨w1.heap.size,0,none⟩)],by rw[aaa];omega,fun b hb=>by rw[al0 _ _ _ (by omega)];exact a2 b hb,?_⟩;simp only[aq];refine⟨w1.heap.size,0,vs,rfl,by simp only[lt,aaa];omega,bgr _ _ _ _ (fun j u hu=>by rw[a16];exact hu),?_⟩;exact aq.keep (ajb (by rw[aaa];omega) (fun b hb=>al0 _ _ b hb)) _ _ _ a3
 |.sl e,hr,l,h,w=>by
  have h':l.length<=nb/\∀y∈l,e.ok y:=h;obtain⟨w1,vss,a1,a2,a3,a4⟩:=byn (rep e hr) l h'.2 w;have hlen:∀us∈vss,us.length=e.size:=fun us hu=>by obtain⟨i,hi,rfl⟩:=a2d hu;exact aq.len _ _ _ (a4 i (l[i]'(by omega)) _ (a0p (by omega)) (a0p hi))
  refine⟨World.put w1 vss.flatten,[.slice (some ⟨w1.heap.size,0,none⟩) l.length l.length],by rw[aaa];omega,fun b hb=>by rw[al0 _ _ _ (by omega)];exact a2 b hb,?_⟩;simp only[aq];refine⟨some ⟨w1.heap.size,0,none⟩,l.length,rfl,⟨h'.1,a0k _⟩,(fun h=>nomatch h),fun a ha hp=>?_⟩;cases ha;refine⟨rfl,by simp only[lt,aaa];omega,fun i x hx=>?_⟩;have hi:=(a1i.1 hx).1;have hv:vss[i]? = some (vss[i]'(by omega)):=a0p (by omega);refine⟨_,bgr _ _ _ (vss[i]'(by omega)) (fun j u hu=>?_),aq.keep (ajb (by rw[aaa];omega) (fun b hb=>al0 _ _ b hb)) _ _ _ (a4 i x _ hx hv)⟩;rw[a16];exact bld vss hlen i _ hv j u hu
 |.fn _ _,hr,_,_,_|.ifc _ _,hr,_,_,_|.ib _ _,hr,_,_,_|.mp _ _,hr,_,_,_|.op _,hr,_,_,_|.ns _,hr,_,_,_|.er _,hr,_,_,_|.any,hr,_,_,_=>by simp[reT]at hr
theorem zt:(t:T)->(x:t.den)->ab (t.oks x)->t.ok x
 |.int _,x,h=>h.1
 |.bool,_,_=>trivial
 |.str,x,h=>h.1
 |.u,_,_|.any,_,_=>trivial
 |.p a b,x,h=>by simp only[T.oks,kv]at h;exact⟨zt a x.1 h.1,zt b x.2 h.2⟩
 |.sl _,x,h=>h.1
 |.pt t,x,h|.fn _ t,x,h|.ifc _ t,x,h|.ib _ t,x,h=>zt t x h
 |.mp _ _,x,h|.op _,x,h|.ns _,x,h=>h.1
 |.er _,x,h=>trivial
def reL:List Bool->List T->Bool
 |[],[]=>true
 |g::gs,t::ts=>cd [reT t,orb g (Nat.beq t.size 1),reL gs ts]
 |_,_=>false
theorem bfu{A A':Nat->Prop}{w w':World}(h:ju A A' w w'):(gs:List Bool)->(ts:List T)->(x:db ts)->(us:List Value)->mg A w gs ts x us->mg A' w' gs ts x us
 |[],[],_,us,r=>by simpa only [mg]using r
 |[],_::_,_,_,r|_::_,[],_,_,r=>by simp[mg]at r
 |g::gs,t::ts,x,us,r=>by simp only[mg]at r⊢;obtain⟨u,us',vs,h1,h2,h3,h4,h5⟩:=r;exact⟨u,us',vs,h1,h2,h3,aq.keep h _ _ _ h4,bfu h gs ts x.2 us' h5⟩
theorem ay2:(gs:List Bool)->(ts:List T)->reL gs ts=true->(x:db ts)->ab (okL ts x)->∀w:World,∃w' us,w.heap.size<=w'.heap.size/\(∀b,b<w.heap.size->w'.heap[b]? = w.heap[b]?)/\mg (lt w') w' gs ts x us
 |[],[],_,_,_,w=>⟨w,[],a0k _,fun _ _=>rfl,by simp only[mg]⟩
 |[],_::_,h,_,_,_|_::_,[],h,_,_,_=>by simp[reL]at h
 |g::gs,t::ts,h,x,hx,w=>by
  simp only[reL,br,bz,a0o,a0b]at h;obtain⟨h1,h2,h3⟩:=h;simp only[okL,kv]at hx;obtain⟨w1,vs,a1,a2,a3⟩:=rep t h1 x.1 (zt _ _ hx.1) w;obtain⟨w2,us,b1,b2,b3⟩:=ay2 gs ts h3 x.2 hx.2 w1;have k:=ajb b1 b2;have hk:=aq.keep k _ _ _ a3
  cases g with
  |true=>refine⟨w2,.agg vs.toArray::us,a0z a1 b1,fun c hc=>(b2 c (a1a hc a1)).trans (a2 c hc),?_⟩;simp only[mg];exact⟨_,us,vs,rfl,fun _=>rfl,(fun h=>nomatch h),hk,b3⟩
  |false=>
   simp only[lq,a37]at h2;have hl:=(aq.len _ _ _ a3).trans (a0v h2)
   match vs,hl with
   |[u],_=>refine⟨w2,u::us,a0z a1 b1,fun c hc=>(b2 c (a1a hc a1)).trans (a2 c hc),?_⟩;simp only[mg];exact⟨u,us,[u],rfl,(fun h=>nomatch h),fun _=>rfl,hk,b3⟩
def okR:(rs:List (Bool×O))->gq rs->List Prop
 |[],_=>[]
 |q::rs,x=>ap (q.2.strip.oks x.1) (okR rs x.2)
theorem bob{Im:Nat->Prop}{w:World}(o:O)(x:o.strip.den)(S:Nat->Prop)(vs:List Value)(h:Rel Im w o x S vs):ab (o.strip.oks x):=me _ _ (aq.ok _ _ _ (Rel.frz (Im':=fun _=>True) (fun _ _=>trivial) o x S vs (fun _ _=>trivial) h))
theorem azj{Im:Nat->Prop}{w:World}:(rs:List (Bool×O))->(x:gq rs)->(S:Nat->Prop)->(us:List Value)->g9 Im w rs x S us->ab (okR rs x)
 |[],_,_,_,_=>trivial
 |q::rs,x,S,us,h=>by simp only[g9]at h;obtain⟨u,us',vs,S1,S2,_,_,_,_,_,_,h7,h8⟩:=h;simp only[okR,kv];exact⟨bob _ _ _ _ h7,azj rs _ _ _ h8⟩
def dfR:(rs:List (Bool×O))->gq rs
 |[]=>()
 |q::rs=>(q.2.strip.dflt,dfR rs)
theorem bzu(B:Tab)(rs:List ResultVar)(rt:List (Bool×O)):(p:EX)->Tri (fun K:gq rt->Prop=>azk B rs rt K p.1 p.2.1 p.2.2)
 |(.nm,env,M)=>by
  simp only[azk,bek];split
  ·exact Tri.sel _
  ·exact Tri.no
 |(.rt,env,M)=>by
  simp only[azk,bek];split
  ·exact Tri.sel _
  ·exact Tri.no
 |(.ex _,env,M)|(.go _,env,M)=>Tri.no
def bbb:List (Nat×Nat)->Bool
 |[]=>true
 |(_,c)::r=>nob (neg (Nat.beq c 999998)) (bbb r)
theorem bju:{l:List (Nat×Nat)}->bbb l=true->∀i,Nat.beq (tq l i) 999998=false
 |[],_,i=>rfl
 |(k,c)::r,h,i=>by
  simp only[bbb,be,a0b]at h;unfold tq
  cases Nat.beq k i with
  |true=>
   have h1:=h.1
   cases hb:Nat.beq c 999998 with
   |true=>rw[hb]at h1;cases h1
   |false=>exact hb
  |false=>exact bju h.2 i
theorem bon(B:Tab)(Φ:FuncId->Option Ct)(cut:Nat->Nat)(hno:∀i,Nat.beq (cut i) 999998=false)(fn:Func)(c:Code)(A:Ann)(ct:Ct)(x:db ct.args):Tri (evF B Φ cut fn c A ct x):=(n5 (B:=B) (Φ:=Φ) cut hno c A (acj 0 (l7 B (toL fn.params) ct.args x)) []).bind (F:=fun K p=>azk B (toL fn.results) ct.rt K p.1 p.2.1 p.2.2) (bzu B (toL fn.results) ct.rt)
theorem bu2(B:Tab)(rs:List ResultVar)(W:Wt):(p:EX)->Tri (fun K:W.o.strip.den×gq W.rt->Prop=>bfj B rs W (fun z r=>K (z,r)) p.1 p.2.1 p.2.2)
 |(.nm,env,M)=>by
  simp only[bfj,aol];split
  ·split
   ·split
    ·split
     ·exact Tri.sel _
     ·exact Tri.no
    ·exact Tri.no
   ·exact Tri.no
  ·exact Tri.no
 |(.rt,env,M)=>by
  simp only[bfj,aol];split
  ·split
   ·split
    ·split
     ·exact Tri.sel _
     ·exact Tri.no
    ·exact Tri.no
   ·exact Tri.no
  ·exact Tri.no
 |(.ex _,env,M)|(.go _,env,M)=>Tri.no
theorem bip(B:Tab)(Φ:FuncId->Option Ct)(cut:Nat->Nat)(hno:∀i,Nat.beq (cut i) 999998=false)(fn:Func)(c:Code)(A:Ann)(W:Wt)(x:W.o.strip.den)(y:db W.as):Tri (fun K:W.o.strip.den×gq W.rt->Prop=>aps B Φ cut fn c A W x y (fun z r=>K (z,r))):=(n5 (B:=B) (Φ:=Φ) cut hno c A _ _).bind (F:=fun K p=>bfj B (toL fn.results) W (fun z r=>K (z,r)) p.1 p.2.1 p.2.2) (bu2 B (toL fn.results) W)
section
variable {P:Program} {B:Tab} {Φ:FuncId->Option Ct}
theorem caq (hΦ : uf P Φ) (hB : TabOk P B) (hmix : P.follows .mixedOrders = true) {f : FuncId} {fn : Func} {c : Code} (hf : P.funcs[f]? = some fn) (hb : fn.body = some c) (hn : (fn.name == "runtime.NumGoroutine") = false) (ct : Ct) (A : Ann) (cut : Nat -> Nat) (hno : ∀ i, Nat.beq (cut i) 999998 = false) (hE : ∃ w0 : World, uj P (lt w0) w0)
  (hga:ct.ga=agL B fn) (hfl:orb ct.sh (af9 ct.rt)=true) (hck:okC fn.ntmps cut c=true) (hlen:ct.ga.length<=fn.ntmps) (hre:reL ct.ga ct.args=true) (Q:db ct.args->gq ct.rt->Prop)
  (h:∀x,ab (okL ct.args x)->ab (ct.pre x)->evF B Φ cut fn c A ct x (Q x)) (x:db ct.args) :
  ∃r,ab (okL ct.args x)->ab (ct.pre x)->evF B Φ cut fn c A ct x (fun r'=>r'=r)/\ab (okR ct.rt r)/\Q x r:=by
 by_cases h1:ab (okL ct.args x)
 case neg=>exact⟨ct.res x,fun h=>absurd h h1⟩
 by_cases h2:ab (ct.pre x)
 case neg=>exact⟨ct.res x,fun _ h=>absurd h h2⟩
 have go:∀Q:gq ct.rt->Prop,evF B Φ cut fn c A ct x Q->∃r,Q r/\ab (okR ct.rt r):=fun Q hq=>by
  obtain⟨w0,hw0⟩:=hE;obtain⟨w,us,a1,a2,k3⟩:=ay2 ct.ga ct.args hre x h1 w0
  obtain⟨e,w',fr,⟨r,rs,S,q1,_,_,_,q2⟩,_⟩:=bxr hB hf hb hn { ct with pre:=fun y=>[y=x] } (fun y r=>y=x->Q r) hga hfl hlen
   (fun y _ hy F p a w hG e1 e2 hst=>aad hΦ hB hmix cut c F hG A _ _ _ (by rw[e1];exact hck) (by rw[e2];exact q9 c) (by have hyx:y=x:=hy.1;rw[hyx];exact (bon B Φ cut hno fn c A ct x).mono (fun r h _=>h) hq) p a w hst) (lt w) w us x (hw0.of fun b hb hl=>⟨a1a hl a1,a2 b hl⟩) (fun b hb=>hb) k3 ⟨rfl,trivial⟩ []
  exact⟨r,q1 rfl,azj _ _ _ _ q2⟩
 rcases bon B Φ cut hno fn c A ct x with h3|h3|⟨r,h3⟩
 ·exact (h3 _ (h x h1 h2)).elim
 ·obtain⟨r,hr,_⟩:=go (fun _=>False) (h3 _);exact hr.elim
 ·refine⟨r,fun _ _=>⟨(h3 _).2 rfl,?_,(h3 _).1 (h x h1 h2)⟩⟩;obtain⟨r',e,ho⟩:=go (fun r'=>r'=r) ((h3 _).2 rfl);subst e;exact ho
theorem by4 (hΦ : uf P Φ) (hB : TabOk P B) (hmix : P.follows .mixedOrders = true) {f : FuncId} {fn : Func} {c : Code} (hf : P.funcs[f]? = some fn) (hb : fn.body = some c) (hn : (fn.name == "runtime.NumGoroutine") = false) (W : Wt) (A : Ann) (cut : Nat -> Nat) (hno : ∀ i, Nat.beq (cut i) 999998 = false) (hE : ∃ w0 : World, uj P (lt w0) w0)
  (hro:abw W.o=true) (hi:W.i<=W.ag.length) (hga:gw W.i false W.ag=agL B fn) (hck:okC fn.ntmps cut c=true) (hlen:W.ag.length+1<=fn.ntmps) (hnw:noW [W.i] c=true) (hre:reL W.ag W.as=true) (t:T) (hot:W.o=.pt (.fz t)) (hrt:reT t=true)
  (Q:W.o.strip.den->db W.as->W.o.strip.den->gq W.rt->Prop)
  (h:∀x y,ab (W.o.strip.oks x)->ab (okL W.as y)->ab (W.pre x y)->aps B Φ cut fn c A W x y (Q x y)) (x:W.o.strip.den) (y:db W.as) :
  ∃q:W.o.strip.den×gq W.rt,ab (W.o.strip.oks x)->ab (okL W.as y)->ab (W.pre x y)->aps B Φ cut fn c A W x y (fun z r=>z=q.1/\r=q.2)/\ab (W.o.strip.oks q.1)/\ab (okR W.rt q.2)/\Q x y q.1 q.2:=by
 by_cases h1:ab (W.o.strip.oks x)
 case neg=>exact⟨(W.new x y,W.res x y),fun h=>absurd h h1⟩
 by_cases h2:ab (okL W.as y)
 case neg=>exact⟨(W.new x y,W.res x y),fun _ h=>absurd h h2⟩
 by_cases h3:ab (W.pre x y)
 case neg=>exact⟨(W.new x y,W.res x y),fun _ _ h=>absurd h h3⟩
 have go:∀Q:W.o.strip.den->gq W.rt->Prop,aps B Φ cut fn c A W x y Q->∃z r,Q z r/\ab (W.o.strip.oks z)/\ab (okR W.rt r):=fun Q hq=>by
  obtain⟨w0,hw0⟩:=hE;obtain⟨w1,us,a1,a2,k3⟩:=ay2 W.ag W.as hre y h2 w0;have hroot:∀(o:O)(x:o.strip.den),o=.pt (.fz t)->ab (o.strip.oks x)->∃w2 u,w1.heap.size<=w2.heap.size/\(∀b,b<w1.heap.size->w2.heap[b]? = w1.heap[b]?)/\∃S A:Nat->Prop,(∀b,b<w1.heap.size->A b)/\(∀b,A b->b<w2.heap.size)/\(∀b,S b->b<w2.heap.size/\¬A b)/\Rel A w2 o x S [u]:=by rintro o x rfl h1;obtain⟨w2,vs,a1,a2,a3⟩:=rep t hrt x (zt _ _ h1) w1;refine⟨World.put w2 vs,.pointer (some ⟨w2.heap.size,0,none⟩),by rw[aaa];omega,fun b hb=>by rw[al0 _ _ _ (by omega)];exact a2 b hb,fun b=>b=w2.heap.size,lt w2,fun b hb=>by simp only[lt];omega,fun b hb=>by rw[aaa];simp only[lt]at hb;omega,fun b hb=>by subst hb;rw[aaa];simp only[lt];omega,?_⟩;simp only[Rel];exact⟨w2.heap.size,vs,0,fun _=>False,rfl,rfl,bn2 _ _,fun c h=>h.elim,aq.keep (fun b hb=>⟨hb,al0 _ _ b hb⟩) _ _ _ a3⟩
  obtain⟨w2,u,b1,b2,S,A',c1,c2,c3,c4⟩:=hroot W.o x hot h1
  obtain⟨e,w',fr,⟨z,r,rs,R,S',q1,_,_,_,_,q2,q3⟩,_⟩:=wt_q hΦ hB hmix hf hb hn W (fun x' y'=>x'=x/\y'=y) (fun x' y' z r=>x'=x->y'=y->Q z r) A cut hro hi hga hck hlen hnw
   (fun x' y' _ _ hy=>by have e1:x'=x:=hy.1;have e2:y'=y:=hy.2;rw[e1,e2];exact (bip B Φ cut hno fn c A W x y).mono (K:=fun p=>Q p.1 p.2) (K':=fun p=>x=x->y=y->Q p.1 p.2) (fun r h _ _=>h) hq) A' w2 u x us y S (hw0.of fun b hb hl=>⟨c1 b (a1a hl a1),(b2 b (a1a hl a1)).trans (a2 b hl)⟩) c2 c3 c4 (bfu (fun b hb=>⟨c1 b hb,b2 b hb⟩) _ _ _ _ k3) ⟨rfl,rfl⟩ []
  exact⟨z,r,q1 rfl rfl,bob _ _ _ _ q2,azj _ _ _ _ q3⟩
 rcases bip B Φ cut hno fn c A W x y with h4|h4|⟨q,h4⟩
 ·exact (h4 (fun p=>Q x y p.1 p.2) (h x y h1 h2 h3)).elim
 ·obtain⟨z,r,hr,_⟩:=go (fun _ _=>False) (h4 (fun _=>False));exact hr.elim
 ·have e1:=(h4 (fun p=>p.1=q.1/\p.2=q.2)).2 ⟨rfl,rfl⟩;refine⟨q,fun _ _ _=>⟨e1,?_⟩⟩;obtain⟨z,r,⟨rfl,rfl⟩,o1,o2⟩:=go (fun z r=>z=q.1/\r=q.2) e1;exact⟨o1,o2,(h4 (fun p=>Q x y p.1 p.2)).1 (h x y h1 h2 h3)⟩
theorem bz1 (hΦ : uf P Φ) (hB : TabOk P B) (hmix : P.follows .mixedOrders = true) {f : FuncId} {fn : Func} {c : Code} (hf : P.funcs[f]? = some fn) (hb : fn.body = some c) (hn : (fn.name == "runtime.NumGoroutine") = false) (ct : Ct) (A : Ann) (cut : Nat -> Nat) (hno : ∀ i, Nat.beq (cut i) 999998 = false) (hE : ∃ w0 : World, uj P (lt w0) w0)
  (hga:ct.ga=agL B fn) (hfl:orb ct.sh (af9 ct.rt)=true) (hck:okC fn.ntmps cut c=true) (hlen:ct.ga.length<=fn.ntmps) (hre:reL ct.ga ct.args=true)
  (W:db ct.args->(gq ct.rt->Prop)->Prop) (hw:∀x K,evF B Φ cut fn c A ct x K=W x K) (Q:db ct.args->gq ct.rt->Prop)
  (hm:∀x,ab (okL ct.args x)->ab (ct.pre x)->W x (Q x)) (x:db ct.args) :
  ∃r,ab (okL ct.args x)->ab (ct.pre x)->W x (fun r'=>r'=r)/\ab (okR ct.rt r)/\Q x r:=by
 obtain⟨r,h⟩:=caq hΦ hB hmix hf hb hn ct A cut hno hE hga hfl hck hlen hre Q (fun x h1 h2=>(hw x _).mpr (hm x h1 h2)) x;exact⟨r,fun h1 h2=>⟨(hw x _).mp (h h1 h2).1,(h h1 h2).2⟩⟩
theorem ca2 (hΦ : uf P Φ) (hB : TabOk P B) (hmix : P.follows .mixedOrders = true) {f : FuncId} {fn : Func} {c : Code} (hf : P.funcs[f]? = some fn) (hb : fn.body = some c) (hn : (fn.name == "runtime.NumGoroutine") = false) (W : Wt) (A : Ann) (cut : Nat -> Nat) (hno : ∀ i, Nat.beq (cut i) 999998 = false) (hE : ∃ w0 : World, uj P (lt w0) w0)
  (hro:abw W.o=true) (hi:W.i<=W.ag.length) (hga:gw W.i false W.ag=agL B fn) (hck:okC fn.ntmps cut c=true) (hlen:W.ag.length+1<=fn.ntmps) (hnw:noW [W.i] c=true) (hre:reL W.ag W.as=true) (t:T) (hot:W.o=.pt (.fz t)) (hrt:reT t=true)
  (V:W.o.strip.den->db W.as->(W.o.strip.den->gq W.rt->Prop)->Prop) (hw:∀x y K,aps B Φ cut fn c A W x y K=V x y K)
  (Q:W.o.strip.den->db W.as->W.o.strip.den->gq W.rt->Prop)
  (hm:∀x y,ab (W.o.strip.oks x)->ab (okL W.as y)->ab (W.pre x y)->V x y (Q x y)) (x:W.o.strip.den) (y:db W.as) :
  ∃q:W.o.strip.den×gq W.rt,ab (W.o.strip.oks x)->ab (okL W.as y)->ab (W.pre x y)->V x y (fun z r=>z=q.1/\r=q.2)/\ab (W.o.strip.oks q.1)/\ab (okR W.rt q.2)/\Q x y q.1 q.2:=by
 obtain⟨q,h⟩:=by4 hΦ hB hmix hf hb hn W A cut hno hE hro hi hga hck hlen hnw hre t hot hrt Q (fun x y h1 h2 h3=>(hw x y _).mpr (hm x y h1 h2 h3)) x y;exact⟨q,fun h1 h2 h3=>⟨(hw x y _).mp (h h1 h2 h3).1,(h h1 h2 h3).2⟩⟩
end
theorem bi7 {P : Program} (h : P.globalNamed "errors.errorType" = none) : ∃ w0 : World, uj P (lt w0) w0 := ⟨default, fun g hg => by cases h.symm.trans hg⟩
end Go.Bm
/- The ff machine:a function whose code jumps back to labels. -/
namespace Go.Bm
open Go.RowKit
section
variable {F:Fr} {p:Ow} {env:Env} {M:Mem} {a:Act} {w:World} {P:Program} {B:Tab} {Φ:FuncId->Option Ct}
end
end Go.Bm
/- Numbers written into data one after the other,and read back. No condition. -/
namespace Go.Bm
end Go.Bm
/- The data of the types of the program. No condition. -/
namespace Go.Bm
abbrev bp:T:=(.p (.int .i64) (.p (.sl (.int .i64)) (.p (.sl (.int .i64)) (.p (.sl (.int .i64)) (.sl (.sl (.int .i64)))))))
abbrev aa:Type:=Int×((List Int)×((List Int)×((List Int)×(List (List Int)))))
abbrev iw:O:=(.p (.fz (.int .i64)) (.p (.sl (.fz (.int .i64))) (.p (.sl (.fz (.int .i64))) (.p (.sl (.fz (.int .i64))) (.sl (.sl (.fz (.int .i64))))))))
abbrev jq:T:=(.p bp (.p bp (.p (.sl (.int .i64)) (.sl (.int .i64)))))
abbrev am:Type:=aa×(aa×((List Int)×(List Int)))
abbrev bqk:T:=(.p (.int .i64) (.p (.int .i64) (.sl (.int .i64))))
abbrev bav:Type:=Int×(Int×(List Int))
abbrev yg:T:=(.p (.int .i64) (.sl (.int .i64)))
abbrev bo:Type:=Int×(List Int)
abbrev cd6:T:=(.p (.int .i64) (.int .i64))
abbrev cde:Type:=Int×Int
abbrev avz:T:=(.p (.int .i64) (.p (.int .i64) (.int .i64)))
abbrev bji:T:=(.pt jq)
abbrev gz:T:=(.p (.sl (.int .u8)) (.p (.int .i64) (.int .u64)))
abbrev ac:Type:=(List Int)×(Int×Int)
abbrev bez:T:=(.p jq (.p jq (.p .bool (.p (.int .i64) (.sl (.sl (.int .i64)))))))
abbrev cj:Type:=am×(am×(Bool×(Int×(List (List Int)))))
end Go.Bm
/- Small facts about lists,for the walks. No condition. -/
namespace Go.Bm
def inR(n lo hi:Int):Bool:=decide (lo<=n)&&decide (n<=hi)
def e9(l:List Int)(n:Int):Bool:=l.all fun y=>inR y 0 (n-1)
theorem ep{l:List Int}{n:Int}:e9 l n=true<->∀i:Int,0<=i->i<l.length->0<=l.getD i.toNat 0/\l.getD i.toNat 0<n:=by
 simp only[e9,a1y,inR,a0b,a0w];constructor
 ·intro h i h0 h1;have:=h _ (cp l 0 h0 h1);omega
 ·intro h x hx;obtain⟨k,hk,rfl⟩:=a2d hx;have:=h k (by omega) (by omega);rw[a0y,a0l,a0p hk]at this;simp only[a1n]at this;omega
def jv:Nat->(Int->Bool)->Bool
 |0,_=>true
 |n+1,p=>jv n p&&p n
theorem ov{p:Int->Bool}:∀{n:Nat},jv n p=true<->∀i:Int,0<=i->i<n->p i=true
 |0=>by simp only[jv,true_iff];intro i h0 h1;omega
 |n+1=>by
  simp only[jv,a0b,ov (n:=n)];constructor
  ·rintro⟨h1,h2⟩ i h0 hi;by_cases e:i=n
   ·rw[e];exact h2
   ·exact h1 i h0 (by omega)
  ·intro h;exact⟨fun i h0 h1=>h i h0 (by omega),h n (by omega) (by omega)⟩
def gp{α:Type}(p:Int->Option α):Nat->Int->Option α
 |0,_=>none
 |k+1,i=>match p i with|some r=>some r|none=>gp p k (i+1)
theorem aju{α:Type}{p:Int->Option α}{n i:Int}{r:α}(h:i<n)(hp:p i=some r):gp p (n-i).toNat i=some r:=by rw[show (n-i).toNat=(n-(i+1)).toNat+1 from by omega,gp,hp]
theorem ajh{α:Type}{p:Int->Option α}{n i:Int}(h:i<n)(hp:p i=none):gp p (n-i).toNat i=gp p (n-(i+1)).toNat (i+1):=by rw[show (n-i).toNat=(n-(i+1)).toNat+1 from by omega,gp,hp]
theorem aja{α:Type}{p:Int->Option α}{n:Int}:gp p (n-n).toNat n=none:=by rw[show (n-n).toNat=0 from by omega,gp]
theorem ajt{α:Type}{p:Int->Option α}{n:Nat}:gp p n 0=gp p ((n:Int)-0).toNat 0:=by rw[show ((n:Int)-0).toNat=n from by omega]
def orR{α:Type}:Option α->α->α
 |some x,_=>x
 |none,y=>y
def mc:Nat->(Int->Bool)->List Int
 |0,_=>[]
 |n+1,p=>if p n=true then mc n p++[(n:Int)]else mc n p
theorem bid{p:Int->Bool}{i:Int}(h0:0<=i)(h:p i=true):mc (i+1).toNat p=mc i.toNat p++[i]:=by rw[show (i+1).toNat=i.toNat+1 from by omega,mc,show ((i.toNat:Nat):Int)=i from by omega,a0a h]
theorem bh2{p:Int->Bool}{i:Int}(h0:0<=i)(h:p i=false):mc (i+1).toNat p=mc i.toNat p:=by rw[show (i+1).toNat=i.toNat+1 from by omega,mc,show ((i.toNat:Nat):Int)=i from by omega,ds (by rw[h];simp)]
theorem abg{p:Int->Bool}:∀n:Nat,(mc n p).length<=n
 |0=>a0k _
 |n+1=>by
  have:=abg (p:=p) n;unfold mc;split
  ·rw[a0m];simp;omega
  ·omega
theorem alt{p:Int->Bool}{x:Int}:∀{n:Nat},x∈mc n p<->0<=x/\x<n/\p x=true
 |0=>by simp only[mc,a3x,false_iff];omega
 |n+1=>by
  unfold mc;split
  ·rename_i h;rw[a07,alt,a0s];constructor
   ·rintro (⟨a,b,c⟩|rfl)
    ·exact⟨a,by omega,c⟩
    ·exact⟨by omega,by omega,h⟩
   ·rintro⟨a,b,c⟩;by_cases e:x=n
    ·exact .inr e
    ·exact .inl ⟨a,by omega,c⟩
  ·rename_i h;rw[alt];constructor
   ·rintro⟨a,b,c⟩;exact⟨a,by omega,c⟩
   ·rintro⟨a,b,c⟩;by_cases e:x=n
    ·subst e;exact absurd c h
    ·exact⟨a,by omega,c⟩
theorem bfx{p q:Int->Bool}:∀{n:Nat},(∀i:Int,0<=i->i<n->p i=q i)->mc n p=mc n q
 |0,_=>rfl
 |n+1,h=>by unfold mc;rw[h n (by omega) (by omega),bfx fun i h0 h1=>h i h0 (by omega)]
theorem aza{α:Type}(l:List α)(k y:Nat)(x d:α)(hk:k<l.length):(l.set k x).getD y d=if k=y then x else l.getD y d:=by
 rw[a0l,a0l,a2v];split
 ·rename_i h;subst h;simp[hk]
 ·rfl
def bh{α:Type}:Nat->(Int->α)->List α
 |0,_=>[]
 |n+1,f=>bh n f++[f n]
theorem bj{α:Type}{f:Int->α}:∀n:Nat,(bh n f).length=n
 |0=>rfl
 |n+1=>by simp[bh,bj n]
theorem kq{α:Type}{f:Int->α}{i:Int}(h0:0<=i):bh (i+1).toNat f=bh i.toNat f++[f i]:=by rw[show (i+1).toNat=i.toNat+1 from by omega,bh,show ((i.toNat:Nat):Int)=i from by omega]
theorem d6{α:Type}{f:Int->α}{d:α}{i:Int}:∀{n:Nat},0<=i->i<n->(bh n f).getD i.toNat d=f i
 |0,h0,h1=>by omega
 |n+1,h0,h1=>by
  unfold bh;by_cases e:i=n
  ·subst e;rw[a0l,a1s (by rw[bj];omega),bj];simp
  ·rw[a0l,a1f (by rw[bj];omega),←a0l];exact d6 h0 (by omega)
theorem lp{α:Type}{f:Int->α}{x:α}:∀{n:Nat},x∈bh n f<->∃i:Int,0<=i/\i<n/\x=f i
 |0=>by simp only[bh,a3x,false_iff];rintro⟨i,h0,h1,_⟩;omega
 |n+1=>by
  unfold bh;rw[a07,lp,a0s];constructor
  ·rintro (⟨i,h0,h1,h⟩|h)
   ·exact⟨i,h0,by omega,h⟩
   ·exact⟨n,by omega,by omega,h⟩
  ·rintro⟨i,h0,h1,h⟩;by_cases e:i=n
   ·subst e;exact .inr h
   ·exact .inl ⟨i,h0,by omega,h⟩
theorem fw{α:Type}{f g:Int->α}:∀{n:Nat},(∀i:Int,0<=i->i<n->f i=g i)->bh n f=bh n g
 |0,_=>rfl
 |n+1,h=>by unfold bh;rw[h n (by omega) (by omega),fw fun i h0 h1=>h i h0 (by omega)]
theorem bnn{α:Type}(x:α):∀n:Nat,List.replicate n x=bh n fun _=>x
 |0=>rfl
 |n+1=>by rw[a32,bh,bnn x n]
theorem alr{α:Type}{f:Int->α}{x:α}{k:Int}:∀{n:Nat},0<=k->k<n->(bh n f).set k.toNat x=bh n fun y=>if y=k then x else f y
 |0,h0,h1=>by omega
 |n+1,h0,h1=>by
  unfold bh;by_cases e:k=n
  ·subst e;rw[List.set_append,ds (by rw[bj];omega),bj];simp only[a0y,a4d,a4j,a04];rw[fw (g:=fun y=>if y=(n:Int)then x else f y) fun i i0 i1=>by rw[ds (by omega)]]
  ·rw[List.set_append,a0a (by rw[bj];omega),alr h0 (by omega)];dsimp only;rw[ds (a0u e)]
theorem bwe{α:Type}{p:α->Bool}(l:List α)(d:α){i:Int}(h0:0<=i)(h1:i<l.length):(l.take (i+1).toNat).all p=((l.take i.toNat).all p&&p (l.getD i.toNat d)):=by rw[mm l d h0 h1,a43];simp
theorem ck{n m b:Nat}(h:(n+m)*b<=140737488355328):c9 n m b:=by unfold c9;rw[eh];exact h
theorem atl{p:Int->Bool}{i:Int}(h0:0<=i):jv (i+1).toNat p=(jv i.toNat p&&p i):=by rw[show (i+1).toNat=i.toNat+1 from by omega,jv,show ((i.toNat:Nat):Int)=i from by omega]
theorem bou{p q:Int->Bool}:∀{n:Nat},(mc n p).filter q=mc n fun x=>p x&&q x
 |0=>rfl
 |n+1=>by unfold mc;cases h:p n<;>cases g:q n<;>simp[h,g,bou (n:=n)]
theorem uz{α:Type}(F:Int->α){n i0:Int}{a0:α}{body:(Unit×(Int×Unit))×(α×Unit)->((Unit×(Int×Unit))×(α×Unit)->Prop)->Prop}(hn:i0<=n)(h0:a0=F i0)
  (hs:∀i next,i0<=i->i<n->next (((),(i+1,())),(F (i+1),()))->body (((),(i,())),(F i,())) next) (he:∀next,body (((),(n,())),(F n,())) next):bn body (((),(i0,())),(a0,())):=by
 refine bq (fun s=>s.2.1=F s.1.2.1/\i0<=s.1.2.1/\s.1.2.1<=n) (fun s=>(n-s.1.2.1).toNat) ?_ ⟨h0,a02 _,hn⟩;rintro⟨⟨_,i,_⟩,y,_⟩ next ⟨hy,h1,h2⟩ hnx
 dsimp only at hy h1 h2 hnx;subst hy;by_cases e:i=n
 ·subst e;exact he next
 ·exact hs i next h1 (by omega) (hnx _ ⟨rfl,by dsimp only;omega,by dsimp only;omega⟩ (by dsimp only;omega))
theorem bki{α:Type}(l:List α)(d:α)(p:α->Bool){body:(Int×Unit)×Unit->((Int×Unit)×Unit->Prop)->Prop}
  (hs:∀(i:Int) next,0<=i->i<l.length->(p (l.getD i.toNat d)=false->l.all p=false)->(p (l.getD i.toNat d)=true->next ((i+1,()),()))->body ((i,()),()) next)
  (he:∀next,l.all p=true->body (((l.length:Int),()),()) next):bn body ((0,()),()):=by
 refine jc (n:=l.length) (fun i=>(l.take i.toNat).all p=true) (by omega) (by simp) ?_ ?_
 ·intro i next i0 i1 hP hn
  have ht:=bwe (p:=p) l d i0 i1;rw[hP,a1v]at ht;rw[ht]at hn;exact hs i next i0 i1 (fun h=>by rw[List.all_eq_false];exact⟨_,cp l d i0 i1,by rw[h];simp⟩) hn
 ·intro next hP
  rw[acf _ (a02 _)]at hP;exact he next hP
theorem bj6(n:Nat)(p:Int->Bool){body:(Unit×(Int×Unit))×(List Int×Unit)->((Unit×(Int×Unit))×(List Int×Unit)->Prop)->Prop}
  (hs:∀(i:Int)(out:List Int) next,0<=i->i<n->(∀s:List Int,s=(if p i=true then out++[i]else out)->next (((),(i+1,())),(s,())))->out.length<=n->body (((),(i,())),(out,())) next)
  (he:∀next,body (((),((n:Int),())),(mc n p,())) next):bn body (((),(0,())),([],())):=by
 refine uz (fun i=>mc i.toNat p) (n:=n) (by omega) rfl ?_ ?_
 ·intro i next i0 i1 hn
  have:=abg (p:=p) i.toNat;refine hs i _ next i0 i1 (fun s h=>?_) (by omega)
  subst h;split
  ·rename_i h;rw[←bid i0 h];exact hn
  ·rename_i h;rw[←bh2 i0 (by simpa using h)];exact hn
 ·intro next
  exact he next
theorem bwc{α:Type}{k:(Unit×Unit)×(List α×Unit)->Prop}{f:((Unit×Unit)×(List α×Unit)->Prop)->Prop}(r:List α)(hk:∀s,s.2.1=r->k s)(hf:∀k',(∀s:List α,s=r->k' (((),()),(s,())))->f k'):dk k f:=cz (fun s=>s.2.1=r) hk fun k' h=>hf k' fun s hs=>h _ hs
def abo(p:Int->Bool)(l:List Int)(i:Int):List Int:=(l.take i.toNat).filter p
theorem bpg{p:Int->Bool}{l:List Int}{i:Int}(h0:0<=i)(h1:i<l.length)(h:p (l.getD i.toNat 0)=true):abo p l (i+1)=abo p l i++[l.getD i.toNat 0]:=by unfold abo;rw[mm l 0 h0 h1,a33];simp only[a2r,h,a04,a47]
theorem bh6{p:Int->Bool}{l:List Int}{i:Int}(h0:0<=i)(h1:i<l.length)(h:p (l.getD i.toNat 0)=false):abo p l (i+1)=abo p l i:=by unfold abo;rw[mm l 0 h0 h1,a33];simp only[a2r,h,a1g,if_false,a47,a2e]
theorem bo2{p:Int->Bool}{l:List Int}{i:Int}(h:(l.length:Int)<=i):abo p l i=l.filter p:=by unfold abo;rw[acf l h]
theorem bc0{p:Int->Bool}{l:List Int}{i:Int}:(abo p l i).length<=l.length:=a0z (a4k _ _) (by rw[a03];omega)
theorem cag{α:Type}{l:List α}{i:Nat}:(anh l i).length=l.length:=by simp[anh]
theorem by6{α:Type}{l:List α}{i:Nat}{y:α}:ayj ((anh l i).set i (some y))=true:=by
 simp only[ayj,anh,a1y,List.set_set];intro x hx;rcases a48 hx with h|h
 ·obtain⟨z,_,rfl⟩:=a2c.1 h;rfl
 ·rw[h];rfl
theorem bz6{α:Type}{z:α}{l:List α}{i:Nat}{y:α}:ao7 z ((anh l i).set i (some y))=l.set i y:=by
 simp only[ao7,anh,List.set_set,List.map_set,a1n,List.map_map];congr 1
 conv=>rhs;rw[←List.map_id l]
 exact List.map_congr_left fun x _=>rfl
theorem ane{α β:Type}{f:α->β}{l:List α}{d:α}{d':β}{i:Nat}(h:i<l.length):(l.map f).getD i d'=f (l.getD i d):=by simp[a0l,h]
theorem bix{α:Type}(d:α):∀l:List α,bh l.length (fun i=>l.getD i.toNat d)=l:=by intro l;refine List.ext_getElem (bj _) fun k h1 h2=>?_;rw[bj]at h1;have:=@d6 α (fun i=>l.getD i.toNat d) d (k:Int) l.length (by omega) (by omega);rw[a0y,a0l,a0p (by rw[bj];exact h1),a0l,a0p h1]at this;exact this
end Go.Bm
