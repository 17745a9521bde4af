/- The typed machine that the walks of this claim go by: its data, its operations and the proof that each is sound. No condition. -/
import Derived.Test.YtdcandojebpfnaaBmFour
import Derived.Scope
import Derived.OpenShut
import Derived.ChangeSlices
import Derived.SizedLaws
import Derived.Below
import Derived.ProofKit
import Derived.ShutString
import Derived.ChangeOld
import Derived.ScopeJumps
set_option linter.unusedVariables false
set_option linter.unusedSimpArgs false
set_option linter.unusedSectionVars false
/- The gi machine:soundness. -/
namespace Go.Bm
open Go.RowKit
section
variable {P:Program} {B:Tab} {Φ:FuncId->Option Ct}
theorem bok {F:Fr} {p:Ow} {env:Env} {M:Mem} {a:Act} {w:World} (h:St F p env M a w) {t:Nat} (hb:(gt env t).isB=true):a.tmps.getD t undef=.bool (gt env t).boolV:=by
 obtain ⟨b,h1,h2⟩:=amz hb
 have:=h.slots t
 rw [h1,bw,gy]at this
 rw [this,h2]
theorem act (hΦ:m7 P Φ) (hB:TabOk P B) (hmix:P.follows .mixedOrders=true) (cut:Nat->Nat):(c:Code)->(F:Fr)->(A:Ann)->(K:Ex->Env->Mem->Prop)->(env:Env)->(M:Mem)->okC F.nt cut c=true->afb F.fv c->ev B Φ cut c A K env M->
  ∀ (p:Ow) (a:Act) (w:World),St F p env M a w->c.wp P (zo F K) a w
 | .skip,F,A,K,env,M,_,_,h,p,a,w,hs=>by simp only [ev]at h;exact wp_skip ⟨p,env,M,hs,h⟩
 | .ret,F,A,K,env,M,_,_,h,p,a,w,hs=>by simp only [ev]at h;exact wp_ret ⟨p,env,M,hs,h⟩
 | .exit id,F,A,K,env,M,_,_,h,p,a,w,hs=>by simp only [ev]at h;exact wp_exit ⟨p,env,M,hs,h⟩
 | .seq x y,F,A,K,env,M,hc,hf,h,p,a,w,hs=>by
  simp only [okC,bc,Bool.and_eq_true]at hc
  have fin:∀ A2:Ann,x.wp P (zo F (aew (fun env M=>ev B Φ cut y A2 K env M) K)) a w->(Code.seq x y).wp P (zo F K) a w:=fun A2 hw=>by
   refine wp_seq (Code.wp_mono (fun e a' w' he=>?_) hw)
   cases e with
   | normal=>obtain ⟨p',env',M',h1,h2⟩:=he;exact act hΦ hB hmix cut y F A2 K env' M' hc.2 hf.2 h2 p' a' w' h1
   | exit id=>exact he
   | ret=>exact he
   | goto l=>exact he
   | panic c=>exact he.elim
   | outgrown=>exact he.elim
  have nj:∀ A:Ann,ev B Φ cut (.seq x y) A K env M=ev B Φ cut x A.fst (aew (fun env M=>ev B Φ cut y A.snd K env M) K) env M->ev B Φ cut (.seq x y) A K env M->(Code.seq x y).wp P (zo F K) a w:=fun A e h=>by
   rw [e]at h
   exact fin A.snd (act hΦ hB hmix cut x F A.fst _ env M hc.1 hf.1 h p a w hs)
  cases A with
  | n=>exact nj _ (by simp only [ev]) h
  | s A1 A2=>exact nj _ (by simp only [ev]) h
  | l ss os ks A=>exact nj _ (by simp only [ev]) h
  | j ss os ks A=>
   simp only [ev]at h
   cases hb:noW ks x with
   | false=>rw [hb]at h;exact h.elim
   | true=>
    rw [hb]at h
    simp only [cond_true,fk]at h
    exact fin A.snd (aw9 hs (act hΦ hB hmix cut x (mkF F (Imm F p M w) w ks a) A.fst _ env M hc.1 (t8 x hb hf.1) h p a w (hs.fwd ks)))
 | .region id ops draw,F,A,K,env,M,hc,hf,h,p,a,w,hs=>by
  simp only [okC,bc,Bool.and_eq_true]at hc
  simp only [ev]at h
  have hQ:∀ p env M a w,St F p env M a w->(fun env M=>K .nm (clr env) M) env M->zo F K .normal a w:=fun p env M a w h1 h2=>⟨p,clr env,M,h1.weak (bbt env),h2⟩
  cases draw with
  | false=>
   simp only at h
   have h1:=hc.1
   have h2:∀ o ∈ ops.toList,∀ k,o.dst=some k->F.fv k=none:=by rw [← ge];exact hf
   rw [ge]at h1
   cases hsq:Nat.beq (cut id) 1600 with
   | true=>
    rw [hsq]at h
    simp only [cond_true]at h
    cases hn:nogd env with
    | false=>rw [hn]at h;exact h.elim
    | true=>
    rw [hn]at h
    have:=bkm (P:=P) hΦ hB ops (zo F K) (fun env M=>K .nm (clr env) M) hQ ops.toList p env M a w h1 h2 (ah7 hn) hs (by rw [← ge ops];exact h)
    have e:ops=ops.toList.toArray:=by simp
    rw [e]
    exact wp_region_lit (by simpa using this)
   | false=>
   rw [hsq]at h
   simp only [cond_false]at h
   cases hsp:Nat.beq (cut id) 1500 with
   | true=>
    rw [hsp]at h
    simp only [cond_true]at h
    have:=bpa (P:=P) hΦ hB ops (zo F K) (fun env M=>K .nm (clr env) M) hQ ops.toList p env M a w h1 h2 hs (by rw [← ge ops];exact h)
    have e:ops=ops.toList.toArray:=by simp
    rw [e]
    exact wp_region_lit (by simpa using this)
   | false=>
   rw [hsp]at h
   simp only [cond_false]at h
   cases hn:nogd env with
   | false=>rw [hn]at h;exact h.elim
   | true=>
   rw [hn]at h
   replace h:=ah5 (B:=B) (Φ:=Φ) _ _ _ (ah7 hn) h
   have:=bne (P:=P) hΦ hB ops (zo F K) (fun env M=>K .nm (clr env) M) hQ ops.toList p env M a w h1 h2 hs (by rw [← ge ops];exact h)
   have e:ops=ops.toList.toArray:=by simp
   rw [e]
   exact wp_region_lit (by simpa using this)
  | true=>
   simp only at h
   cases hbx:Nat.beq (cut id) 999999 with
   | true=>
    rw [hbx]at h hc
    simp only [cond_true]at h
    have hs1:=vt [] (agi env (toL ops)) M env hs
    generalize pg [] (agi env (toL ops)) M env=z at h hs1
    obtain ⟨env1,M1⟩:=z
    exact bp8 hΦ hB hmix hc.1 hf hc.2 hQ hs1 h
   | false=>
   rw [hbx]at h hc
   simp only [cond_false]at h hc
   cases htw:Nat.beq (cut id) 999998 with
   | true=>
    rw [htw]at h hc
    simp only [cond_true]at h hc
    exact bpo hΦ hB hmix hf hc.2 hQ hs h.1 h.2
   | false=>
   rw [htw]at h hc
   simp only [cond_false]at h hc
   cases hpq:Nat.ble 10000 (cut id)with
   | true=>
    rw [hpq]at h hc
    simp only [cond_true]at h hc
    generalize mC (cut id)=n at h hc
    generalize hrC (cut id)=hr0 at h hc
    generalize bh4 (cut id)=ks at h
    cases hn:w6 env with
    | false=>rw [hn]at h;exact h.elim
    | true=>
    rw [hn]at h
    simp only [cond_true]at h
    have hc2:=hc.2
    simp only [bc,Bool.and_eq_true]at hc2
    exact bga (R:=hr0) (R2:=true) (ks:=ks) (as:=[]) hΦ hB hmix hc2.1 hf hc2.2 (fun h=>by cases h) (fun i hi hfl=>bb4 hi hfl) hQ hs hn h
   | false=>
   rw [hpq]at h hc
   simp only [cond_false]at h hc
   cases hpm:Nat.ble 2000 (cut id)with
   | true=>
    rw [hpm]at h hc
    simp only [cond_true]at h hc
    generalize Nat.sub (cut id) (arq (cut id))=n at h hc
    generalize (bif Nat.ble 5000 (cut id)then alf env (toL ops)else [])=as at h
    obtain ⟨env1,M1,e1,hs1⟩:∃ env1 M1,(bif bgs (cut id)then pg [] (agi env (toL ops)) M env else (env,M))=(env1,M1)/\St F p env1 M1 a w:=by
     cases bgs (cut id)with
     | true=>exact ⟨_,_,rfl,vt [] (agi env (toL ops)) M env hs⟩
     | false=>exact ⟨env,M,rfl,hs⟩
    rw [e1]at h
    simp only at h
    cases hn:w6 env1 with
    | false=>rw [hn]at h;exact h.elim
    | true=>
    rw [hn]at h
    simp only [cond_true]at h
    have hc2:=hc.2
    simp only [bc,Bool.and_eq_true]at hc2
    exact bga (R:=false) (R2:=false) (ks:=[]) (as:=as) hΦ hB hmix hc2.1 hf hc2.2 (fun _=>rfl) (fun i hi hfl=>by cases Nat.ble 5000 (cut id)with | true=>exact bb4 hi hfl | false=>exact bmf hi) hQ hs1 hn h
   | false=>
   rw [hpm]at h hc
   simp only [cond_false]at h hc
   cases hfx:Nat.ble 1000 (cut id)with
   | true=>
    rw [hfx]at h hc
    simp only [cond_true]at h hc
    generalize Nat.sub (cut id) 1000=n at h hc
    obtain ⟨env1,M1,e1,hs1⟩:∃ env1 M1,pg [] (aow env (toL ops)) M env=(env1,M1)/\St F p env1 M1 a w:=⟨_,_,rfl,vt [] (aow env (toL ops)) M env hs⟩
    rw [e1]at h
    simp only at h
    cases hn:w6 env1 with
    | false=>rw [hn]at h;exact h.elim
    | true=>
    rw [hn]at h
    simp only [cond_true]at h
    exact bfg (R:=false) (ks:=[]) (as:=[]) (bk6 hΦ) hB hmix hc.1 hf hc.2 (fun _=>rfl) (fun h=>by cases h) hQ hs1 hn (by simp only [aiq,bnc];exact h)
   | false=>
   rw [hfx]at h hc
   simp only [cond_false]at h hc
   cases hhx:Nat.ble 500 (cut id)with
   | true=>
    rw [hhx]at h hc
    simp only [cond_true]at h hc
    generalize Nat.sub (cut id) 500=n at h hc
    cases hn:w6 env with
    | false=>rw [hn]at h;exact h.elim
    | true=>
    rw [hn]at h
    simp only [cond_true]at h
    exact bfg (R:=false) (ks:=[]) (as:=[]) hΦ hB hmix hc.1 hf hc.2 (fun _=>rfl) (fun h=>by cases h) hQ hs hn (by simp only [aiq,bnc];exact h)
   | false=>
   rw [hhx]at h hc
   simp only [cond_false]at h hc
   cases hn:nogd env with
   | false=>rw [hn]at h;exact h.elim
   | true=>
   rw [hn]at h
   replace h:=bb2 (B:=B) (Φ:=Φ) (fun env hI he=>ah5 (B:=B) (Φ:=Φ) _ _ _ hI he) _ _ _ (ah7 hn) h
   exact bot hΦ hB hmix hc.1 hf hc.2 hQ hs h
 | .cond g x y,F,A,K,env,M,hc,hf,h,p,a,w,hs=>by
  simp only [okC,bc,Bool.and_eq_true]at hc
  cases g with
  | const v=>simp only [ev]at h
  | func v=>simp only [ev]at h
  | global v=>simp only [ev]at h
  | tmp t=>
   have plain:∀ (A1 A2:Ann) (F':Fr) (K':Ex->Env->Mem->Prop),F'.nt=F.nt->afb F'.fv x->afb F'.fv y->St F' p env M a w->(gt env t).isB=true->cnd (gt env t).boolV (ev B Φ cut x A1 K' env M) (ev B Φ cut y A2 K' env M)->(Code.cond (.tmp t) x y).wp P (zo F' K') a w:=fun A1 A2 F' K' hnt hfx hfy hs' hb hcn=>
    wp_cond_split (t:=(gt env t).boolV) (bok hs' hb) (fun e=>act hΦ hB hmix cut x F' A1 K' env M (by rw [hnt];exact hc.1) hfx (hcn.1 e) p a w hs') (fun e=>act hΦ hB hmix cut y F' A2 K' env M (by rw [hnt];exact hc.2) hfy (hcn.2 e) p a w hs')
   have nj:∀ A:Ann,ev B Φ cut (.cond (.tmp t) x y) A K env M=(bif (gt env t).isB then cnd (gt env t).boolV (ev B Φ cut x A.fst K env M) (ev B Φ cut y A.snd K env M)else False)->ev B Φ cut (.cond (.tmp t) x y) A K env M->(Code.cond (.tmp t) x y).wp P (zo F K) a w:=fun A e h=>by
    rw [e]at h
    cases hb:(gt env t).isB with
    | false=>rw [hb]at h;exact h.elim
    | true=>rw [hb]at h;exact plain A.fst A.snd F K rfl hf.1 hf.2 hs hb h
   cases A with
   | n=>exact nj _ (by simp only [ev]) h
   | s A1 A2=>exact nj _ (by simp only [ev]) h
   | l ss os ks A=>exact nj _ (by simp only [ev]) h
   | j ss os ks A=>
    simp only [ev]at h
    cases hb:bt [(gt env t).isB,noW ks x,noW ks y]with
    | false=>rw [hb]at h;exact h.elim
    | true=>
     rw [hb]at h
     simp only [cond_true,fk]at h
     simp only [br,b8,Bool.and_true,Bool.and_eq_true]at hb
     exact aw9 hs (plain A.fst A.snd (mkF F (Imm F p M w) w ks a) _ rfl (t8 x hb.2.1 hf.1) (t8 y hb.2.2 hf.2) (hs.fwd ks) hb.1 h)
 | .block id c,F,A,K,env,M,hc,hf,h,p,a,w,hs=>by
  simp only [okC]at hc
  have fin:∀ (F':Fr) (K2:Ex->Env->Mem->Prop),c.wp P (zo F' (ak1 id K2)) a w->(Code.block id c).wp P (zo F' K2) a w:=fun F' K2 hw=>by
   refine wp_block (Code.wp_mono (fun e a' w' he=>?_) hw)
   cases e with
   | normal=>exact he
   | exit id'=>
    obtain ⟨p',env',M',h1,h2⟩:=he
    simp only [ak1,dv]at h2
    simp only [Exit.inBlock]
    split at h2
    ·rename_i e;rw [if_pos e];exact ⟨p',env',M',h1,h2⟩
    ·rename_i e;rw [if_neg e];exact ⟨p',env',M',h1,h2⟩
   | ret=>exact he
   | goto l=>exact he
   | panic c=>exact he.elim
   | outgrown=>exact he.elim
  have nj:∀ A:Ann,ev B Φ cut (.block id c) A K env M=ev B Φ cut c A (ak1 id K) env M->ev B Φ cut (.block id c) A K env M->(Code.block id c).wp P (zo F K) a w:=fun A e h=>by
   rw [e]at h
   exact fin F K (act hΦ hB hmix cut c F A _ env M hc hf h p a w hs)
  cases A with
  | n=>exact nj _ (by simp only [ev]) h
  | s A1 A2=>exact nj _ (by simp only [ev]) h
  | l ss os ks A=>exact nj _ (by simp only [ev]) h
  | j ss os ks A=>
   simp only [ev]at h
   cases hb:noW ks c with
   | false=>rw [hb]at h;exact h.elim
   | true=>
    rw [hb]at h
    simp only [cond_true,fk]at h
    exact aw9 hs (fin _ _ (act hΦ hB hmix cut c (mkF F (Imm F p M w) w ks a) A _ env M hc (t8 c hb hf) h p a w (hs.fwd ks)))
 | .loop c,F,A,K,env,M,hc,hf,h,p,a,w,hs=>by
  simp only [okC]at hc
  cases A with
  | n=>simp only [ev]at h
  | s A1 A2=>simp only [ev]at h
  | j ss os ks A=>simp only [ev]at h
  | l ss os ks A=>
   simp only [ev]at h
   cases hb:noW ks c with
   | false=>rw [hb]at h;exact h.elim
   | true=>
    rw [hb]at h
    simp only [cond_true]at h
    cases hrd:ajw ss os env M with
    | none=>rw [hrd]at h;exact h.elim
    | some q=>
     rw [hrd]at h
     simp only [bu]at h
     obtain ⟨n,hn⟩:=h
     obtain ⟨p1,h1,hK⟩:=ase hs hrd
     obtain ⟨o1,o2⟩:=ao3 hs hrd
     generalize hbody:(fun (s:vf ss×pp os) (next:vf ss×pp os->Prop)=>imps (okS ss s.1) (imps (okO os s.2) (ev B Φ cut c A (xc ss os next K) (ap (akx ss s.1) (kept q.2 ks)) (mc os s.2))))=body at hn
     have key:=az0 (P:=P) (c:=c) (Q':=zo F K) (ι:=Nat) (fun n a1 w1=>∃ (p2:Ow) (s:vf ss×pp os),St (mkF F (Imm F p1 (mc os q.1.2) w) w ks a) p2 (ap (akx ss s.1) (kept q.2 ks)) (mc os s.2) a1 w1/\ae (okS ss s.1)/\ae (okO os s.2)/\vl body n s) id
      (fun n a1 w1 ⟨p2,s,g1,g2,g3,g4⟩=>by
       cases n with
       | zero=>simp only [vl]at g4
       | succ n=>
        simp only [vl]at g4
        have hb1:=congrFun (congrFun hbody s) (vl body n)
        rw [← hb1]at g4
        simp only [bbj]at g4
        refine Code.wp_mono (fun e a' w' he=>?_) (act hΦ hB hmix cut c (mkF F (Imm F p1 (mc os q.1.2) w) w ks a) A _ _ _ hc (t8 c hb hf) (g4 g2 g3) p2 a1 w1 g1)
        cases e with
        | normal=>
         obtain ⟨p3,env3,M3,k1,k2⟩:=he
         simp only [xc,aut]at k2
         cases hr3:ajw ss os env3 M3 with
         | none=>rw [hr3]at k2;exact k2.elim
         | some s'=>
          rw [hr3]at k2
          obtain ⟨p4,k3,_⟩:=ase k1 hr3
          obtain ⟨k4,k5⟩:=ao3 k1 hr3
          exact ⟨n,Nat.lt_succ_self n,p4,s'.1,St.add hK k3,k4,k5,k2⟩
        | exit id=>obtain ⟨p3,env3,M3,k1,k2⟩:=he;exact ⟨p3,env3,M3,h1.back k1,k2⟩
        | ret=>obtain ⟨p3,env3,M3,k1,k2⟩:=he;exact ⟨p3,env3,M3,h1.back k1,k2⟩
        | goto l=>obtain ⟨p3,env3,M3,k1,k2⟩:=he;exact ⟨p3,env3,M3,h1.back k1,k2⟩
        | panic ch=>exact he.elim
        | outgrown=>exact he.elim)
     exact key n a w ⟨p1,q.1,St.add hK (h1.fwd ks),o1,o2,hn⟩
 | .scope c,F,A,K,env,M,hc,hf,h,p,a,w,hs=>by
  simp only [okC]at hc
  simp only [ev]at h
  refine wp_scope_straight (Code.wp_mono (fun e a' w' he=>?_) (act hΦ hB hmix cut c F A _ env M hc hf h p a w hs))
  cases e with
  | goto l=>obtain ⟨_,_,_,_,h2⟩:=he;exact h2.elim
  | normal=>exact he
  | exit id=>exact he
  | ret=>exact he
  | panic ch=>exact he
  | outgrown=>exact he
 | .goto l,F,A,K,env,M,_,_,h,p,a,w,hs=>by simp only [ev]at h;exact wp_goto ⟨p,env,M,hs,h⟩
 | .label _,F,A,K,env,M,_,_,h,p,a,w,hs=>by simp only [ev]at h;exact wp_label ⟨p,env,M,hs,h⟩
 | .rangeFunc _ _ _ _,F,A,K,env,M,_,_,h,p,a,w,hs=>by simp only [ev]at h
 | .refuse _,F,A,K,env,M,_,_,h,p,a,w,hs=>by simp only [ev]at h
end
end Go.Bm
/- The gi machine:a contract out of a walk. -/
namespace Go.Bm
open Go.RowKit
theorem bcf {Im Im':Nat->Prop} {w:World}:(rs:List (Bool×O))->ahu rs=true->(x:js rs)->(S:Nat->Prop)->(us:List Value)->kg Im w rs x S us->kg Im' w rs x S us
 | [],_,x,S,us,r=>by simpa only [kg]using r
 | q::rs,h,x,S,us,r=>by
  simp only [ahu,bc,Bool.and_eq_true]at h
  simp only [kg]at r ⊢
  obtain ⟨u,us',vs,S1,S2,e1,e2,e3,e4,e5,e6,e7,e8⟩:=r
  exact ⟨u,us',vs,S1,S2,e1,e2,e3,e4,e5,e6,aev _ h.1 _ _ _ e7,bcf rs h.2 _ _ _ e8⟩
section
variable {F:Fr} {p p' p'':Ow} {env env':Env} {M M' M'':Mem} {a a':Act} {w w' w'':World} {P:Program} {B:Tab} {Φ:FuncId->Option Ct}
theorem boq {t:TypeId} {u r:Value} (h:(Instr.loadAt t u).run P w=.ok r w):(do loadVar t (← asAddr u):Sem Value).run P w=.ok r w:=by
 cases u <;> simp [Instr.loadAt,Instr.sureAddr]at h
 case pointer o=>
  cases o with
  | none=>simp at h
  | some ad=>simpa [asAddr]using h
def bby (tmps:Array Value):ResultVar->Sem Value
 | .tmp t=>pure (tmps.getD t undef)
 | .cell t ty'=>do loadVar ty' (← asAddr (tmps.getD t undef))
theorem ava (fn:Func) (tmps:Array Value):results fn tmps=(do let vs ← fn.results.mapM (bby tmps);pure (if h:vs.size=1 then vs[0]else .tuple vs):Sem Value):=by
 unfold results
 congr
theorem bfc (hB:TabOk P B) (hp:Hp F p M w) (hs:∀ t,al p.β M (Imm F p M w) w (gt env t) (a.tmps.getD t undef)) (rv:ResultVar) (v:V) (hv:bdt B env M rv=some v) :
  ∃ r,(bby a.tmps rv).run P w=.ok r w/\al p.β M (Imm F p M w) w v r:=by
 cases rv with
 | tmp t=>simp only [bdt,Option.some.injEq]at hv;subst hv;exact ⟨_,by simp [bby],hs t⟩
 | cell t ty'=>
  simp only [bdt]at hv
  split at hv
  ·rename_i v' he
   cases hv
   obtain ⟨r,h1,h2⟩:=ao7 (P:=P) hB hp _ _ (hs t) (by rw [he];trivial)
   rw [he]at h2
   exact ⟨r,boq h1,h2⟩
  ·cases hv
theorem bew {v:V} {u:Value} {g:Bool} (hp:Hp F p M w) (h:al p.β M (Imm F p M w) w v u) (hc:nr (mz g v)=true):∃ vs:List Value,(g=true->u=.agg vs.toArray)/\(g=false->vs=[u])/\ai p.β M (Imm F p M w) w (mz g v) vs:=by
 cases v with
 | ag y=>
  cases g with
  | false=>simp [mz,nr]at hc
  | true=>
   simp only [al]at h
   obtain ⟨vs,h1,h2⟩:=h
   exact ⟨vs,fun _=>h1,(fun h=>nomatch h),by simpa only [mz,cond_true]using h2⟩
 | any=>cases g <;> simp [mz,nr]at hc
 | tup _=>cases g <;> simp [mz,nr]at hc
 | gd _ _ _ _=>cases g <;> simp [mz,nr]at hc
 | ifc t x=>cases g with
  | true=>simp [mz,nr]at hc
  | false=>exact ⟨[u],(fun h=>nomatch h),fun _=>rfl,by simpa only [mz,cond_false,al]using h⟩
 | p x y=>cases g with
  | true=>simp [mz,nr]at hc
  | false=>exact ⟨[u],(fun h=>nomatch h),fun _=>rfl,by simpa only [mz,cond_false,al]using h⟩
 | u=>cases g with
  | true=>simp [mz,nr]at hc
  | false=>exact ⟨[u],(fun h=>nomatch h),fun _=>rfl,by simpa only [mz,cond_false,al]using h⟩
 | ref k π=>cases g with
  | true=>simp [mz,nr]at hc
  | false=>exact ⟨[u],(fun h=>nomatch h),fun _=>rfl,by simpa only [mz,cond_false,al]using h⟩
 | ad k π=>cases g with
  | true=>simp [mz,nr]at hc
  | false=>exact ⟨[u],(fun h=>nomatch h),fun _=>rfl,by simpa only [mz,cond_false,al]using h⟩
 | d t x=>cases g with
  | true=>simp [mz,nr]at hc
  | false=>exact ⟨[u],(fun h=>nomatch h),fun _=>rfl,by simpa only [mz,cond_false,al]using h⟩
 | nl=>cases g with
  | true=>simp [mz,nr]at hc
  | false=>exact ⟨[u],(fun h=>nomatch h),fun _=>rfl,by simpa only [mz,cond_false,al]using h⟩
 | np=>cases g with
  | true=>simp [mz,nr]at hc
  | false=>exact ⟨[u],(fun h=>nomatch h),fun _=>rfl,by simpa only [mz,cond_false,al]using h⟩
 | fn f x=>cases g with
  | true=>simp [mz,nr]at hc
  | false=>exact ⟨[u],(fun h=>nomatch h),fun _=>rfl,by simpa only [mz,cond_false,al]using h⟩
 | bx x=>cases g with
  | true=>simp [mz,nr]at hc
  | false=>exact ⟨[u],(fun h=>nomatch h),fun _=>rfl,by simpa only [mz,cond_false,al]using h⟩
theorem bfs (hp:Hp F p M w) (o:O) (v:V) (vs:List Value) (x:o.strip.den) (e:List Ev) (r:ai p.β M (Imm F p M w) w v vs) (h:bhf M o v=some (x,e,M')) :
  ∃ p',∃ S:Nat->Prop,Tr F p M w e p' M' w/\(∀ b,p'.L b<->p.L b\/S b)/\(∀ b,S b->¬ p.L b)/\Rel (Imm F p' M' w) w o x S vs:=by
 have key:(match conv gid o.strip v M with
  | some (q,e,M')=>(match wkO q o with | some x=>some (x,e,M') | none=>none)
  | none=>none)=some (x,e,M')->∃ p',∃ S:Nat->Prop,Tr F p M w e p' M' w/\(∀ b,p'.L b<->p.L b\/S b)/\(∀ b,S b->¬ p.L b)/\Rel (Imm F p' M' w) w o x S vs:=fun h=>by
  split at h
  ·rename_i q e1 M1 hc
   split at h
   ·rename_i y hy
    cases h
    obtain ⟨_,p1,S,cv⟩:=ae3 gid o.strip v M p vs q e M' hp r hc
    obtain ⟨w1,w2⟩:=ai5 hy
    obtain ⟨S',s1,s2⟩:=ady q.o o w1 q.x x S vs w2 cv.rel
    have hd:=Tr.drop cv.tr.hp (fun b=>p.L b\/S' b) (fun b hb=>(cv.L b).2 (hb.imp id (s1 b)))
    refine ⟨⟨p1.β,p1.σ,fun b=>p.L b\/S' b⟩,S',by have:=cv.tr.trans hd;rwa [ap3]at this,fun b=>Iff.rfl,fun b hb=>cv.sp b (s1 b hb),s2 _ (fun b hb=>(hd.keep b hb).1) (fun b hb hn=>?_)⟩
    have hl:=cv.tr.hp.lim b ((cv.L b).2 (.inr hb))
    exact ⟨hl.1,.inr (.inr hl.2.1),fun h=>h.elim (cv.sp b hb) hn,hl.2.2⟩
   ·cases h
  ·cases h
 cases o with
 | fz t=>
  simp only [bhf]at h
  have hf:=xm v M hp
  generalize cf M v=z at h hf
  obtain ⟨e1,M1⟩:=z
  simp only at h hf
  split at h
  ·rename_i y hy
   cases h
   exact ⟨p,fun _=>False,hf,fun b=>by simp,fun b hb=>hb.elim,by simp only [Rel];exact afk _ t vs x (hf.c _ _ r) hy⟩
  ·cases h
 | p a b=>exact key h
 | sl a=>exact key h
 | pt a=>exact key h
 | mp _ _=>exact key h
 | op _=>exact key h
theorem bgn (hB:TabOk P B):(rs:List ResultVar)->(qs:List (Bool×O))->(p:Ow)->(env:Env)->(M:Mem)->(y:js qs)->Hp F p M w->(∀ t,al p.β M (Imm F p M w) w (gt env t) (a.tmps.getD t undef))->apu B env M rs qs=some y->
  ∃ us p' M',∃ S:Nat->Prop,(rs.mapM (bby a.tmps)).run P w=.ok us w/\Hp F p' M' w/\jc (Imm F p M w) (Imm F p' M' w) w w/\(∀ b,p.L b->p'.L b)/\(∀ b,S b->p'.L b)/\(∀ b,S b->¬ p.L b)/\kg (Imm F p' M' w) w qs y S us
 | [],[],p,env,M,y,hp,hs,h=>by
  exact ⟨[],p,M,fun _=>False,rfl,hp,jc.refl _ _,fun b hb=>hb,fun b hb=>hb.elim,fun b hb=>hb.elim,by simp only [kg]⟩
 | [],_::_,p,env,M,y,hp,hs,h=>by simp [apu]at h
 | _::_,[],p,env,M,y,hp,hs,h=>by simp [apu]at h
 | r::rs,q::qs,p,env,M,y,hp,hs,h=>by
  simp only [apu]at h
  split at h
  ·rename_i v hv
   cases hc:nr (mz q.1 v)with
   | false=>rw [hc]at h;cases h
   | true=>
    rw [hc]at h
    simp only [cond_true]at h
    split at h
    ·rename_i x e M1 ho
     split at h
     ·rename_i z hz
      cases h
      obtain ⟨u,u1,u2⟩:=bfc (P:=P) (a:=a) hB hp hs r v hv
      obtain ⟨vs,g1,g2,g3⟩:=bew hp u2 hc
      obtain ⟨p1,S,t1,t2,t3,t4⟩:=bfs hp q.2 (mz q.1 v) vs x e g3 ho
      obtain ⟨us,p2,M2,S2,k1,k2,k3,k4,k5,k6,k7⟩:=bgn hB rs qs p1 (rr env e) M1 z t1.hp (fun t=>by rw [uc];exact t1.s _ _ (hs t)) hz
      refine ⟨u::us,p2,M2,fun b=>S b\/S2 b,?_,k2,t1.keep.trans k3,fun b hb=>k4 b ((t2 b).2 (.inl hb)),fun b hb=>hb.elim (fun h=>k4 b ((t2 b).2 (.inr h))) (k5 b),fun b hb=>hb.elim (t3 b) (fun h hL=>k6 b h ((t2 b).2 (.inl hL))),?_⟩
      ·simp only [List.mapM_cons,Sem.run_bind,u1,Result.andThen_ok,k1,Sem.run_pure]
      ·simp only [kg]
       exact ⟨u,us,vs,S,S2,rfl,g1,g2,fun b hb=>.inl hb,fun b hb=>.inr hb,fun b hb hb'=>k6 b hb' ((t2 b).2 (.inr hb)),Rel.keep k3 _ _ _ _ (fun _ _=>rfl) t4,k7⟩
     ·cases h
    ·cases h
  ·cases h
theorem axu:∀ (l:List V) (i t:Nat),gt (aid i l) t=if i<=t then (l[t - i]?).getD .any else .any
 | [],i,t=>by simp [aid,gt]
 | x::r,i,t=>by
  simp only [aid]
  rw [im]
  by_cases h:i=t
  ·subst h;simp
  ·rw [if_neg h,axu r (Nat.succ i) t]
   by_cases h1:Nat.succ i<=t
   ·rw [if_pos h1,if_pos (by omega),show t - i=(t - Nat.succ i)+1 by omega];simp
   ·rw [if_neg h1,if_neg (by omega)]
theorem anp {A Im:Nat->Prop} {β:Nat->Value} {M:Mem} (hA:∀ b,A b->Im b):(gs:List Bool)->(ts:List T)->(x:bi ts)->(us:List Value)->oy A w gs ts x us->(qs:List TypeId)->(m:Nat)->gs=ap (qs.map (fun q=>(B.τ q).agg)) (ab7 false m)->us.length=gs.length/\(xi B qs ts x).length=gs.length/\ae (okL ts x)/\
  ∀ (i:Nat) (v:V) (u:Value),(xi B qs ts x)[i]? = some v->us[i]? = some u->al β M Im w v u
 | [],[],x,us,h,qs,_,_=>by simp only [oy]at h;subst h;exact ⟨rfl,by cases qs <;> rfl,trivial,fun i v u hv=>by cases qs <;> simp [xi]at hv⟩
 | [],_::_,x,us,h,_,_,_=>by simp [oy]at h
 | _::_,[],x,us,h,_,_,_=>by simp [oy]at h
 | g::gs,t::ts,x,us,h,[],m,e=>by
  simp only [oy]at h
  obtain ⟨u,us',vs,rfl,h1,h2,h3,h4⟩:=h
  cases m with
  | zero=>simp [ap,ab7]at e
  | succ m=>
   simp only [List.map_nil,ap,ab7,List.cons.injEq]at e
   obtain ⟨i1,i2,i3,i4⟩:=anp (β:=β) (M:=M) hA gs ts x.2 us' h4 [] m (by simpa only [List.map_nil,ap]using e.2)
   refine ⟨by simp [i1],by simp [xi,i2],by simp only [okL,lh];exact ⟨qe _ _ (aq.ok _ _ _ h3),i3⟩,fun i v u' hv hu=>?_⟩
   cases i with
   | zero=>
    simp only [xi,List.getElem?_cons_zero,Option.some.injEq]at hv hu
    subst hv;subst hu
    have r:ai β M Im w (n9 t x.1) vs:=sm t x.1 vs (aq.keep (fun b hb=>⟨hA b hb,rfl⟩) _ _ _ h3)
    have:=h2 e.1
    subst this
    exact bq r
   | succ i=>exact i4 i v u' (by simpa [xi]using hv) (by simpa using hu)
 | g::gs,t::ts,x,us,h,q::qs,m,e=>by
  simp only [oy]at h
  obtain ⟨u,us',vs,rfl,h1,h2,h3,h4⟩:=h
  simp only [List.map_cons,ap,List.cons.injEq]at e
  obtain ⟨i1,i2,i3,i4⟩:=anp (β:=β) (M:=M) hA gs ts x.2 us' h4 qs m e.2
  refine ⟨by simp [i1],by simp [xi,i2],by simp only [okL,lh];exact ⟨qe _ _ (aq.ok _ _ _ h3),i3⟩,fun i v u' hv hu=>?_⟩
  cases i with
  | zero=>
   simp only [xi,List.getElem?_cons_zero,Option.some.injEq]at hv hu
   subst hv;subst hu
   have r:ai β M Im w (n9 t x.1) vs:=sm t x.1 vs (aq.keep (fun b hb=>⟨hA b hb,rfl⟩) _ _ _ h3)
   rw [← e.1]
   cases g with
   | true=>simp only [ac1,cond_true,al];exact ⟨vs,h1 rfl,r⟩
   | false=>
    have:=h2 rfl
    subst this
    simp only [ac1,cond_false]
    exact bq r
  | succ i=>exact i4 i v u' (by simpa [xi]using hv) (by simpa using hu)
theorem bng (hB : TabOk P B) {f : FuncId} {fn : Func} {c : Code} (hf : P.funcs[f]? = some fn) (hb : fn.body = some c) (hn : (fn.name == "runtime.NumGoroutine") = false) (ct : Ct) (Q : bi ct.args -> js ct.rt -> Prop)
  (hga:ct.ga=agL B fn) (hfl:orb ct.sh (ahu ct.rt)=true) (hlen:ct.ga.length<=fn.ntmps)
  (h:∀ x,ae (okL ct.args x)->ae (ct.pre x)->∀ (F:Fr) (p:Ow) (a:Act) (w:World),F.nt=fn.ntmps->F.fv=(fun _=>none)->St F p (aid 0 (xi B (toL fn.params) ct.args x)) [] a w->c.wp P (zo F (ask B (toL fn.results) ct.rt (Q x))) a w):∀ (A:Nat->Prop) (w:World) (us:List Value) (x:bi ct.args),(∀ b,A b->b < w.heap.size)->oy A w ct.ga ct.args x us->ae (ct.pre x)->
  Calls P f us.toArray w fun e w'=>∃ r rs S,Q x r/\e=.returned (xn rs)/\Ext w w'/\(∀ b,S b->w.heap.size<=b/\b < w'.heap.size)/\
   kg (fun b=>b < w'.heap.size/\(ct.sh=true/\A b\/w.heap.size<=b)/\¬ S b) w' ct.rt r S rs:=by
 intro Ab w us x hA hrel hpre
 let F:Fr:=⟨w,w,Ab,fun _=>False,fun _=>False,fn.ntmps,fun _=>none⟩
 let p0:Ow:=⟨fun _=>undef,fun _ _=>False,fun _=>False⟩
 have himm:∀ b,Ab b->Imm F p0 [] w b:=fun b hb=>⟨hA b hb,.inl hb,fun h=>h,fun k hk=>by simp [er,go]at hk⟩
 obtain ⟨l1,l2,l3,l4⟩:=anp (B:=B) (β:=p0.β) (M:=[]) himm ct.ga ct.args x us hrel (toL fn.params) fn.nfree hga
 have hst:St F p0 (aid 0 (xi B (toL fn.params) ct.args x)) [] { tmps:=us.toArray++Array.replicate (fn.ntmps - us.toArray.size) undef,defers:=[] } w:=by
  refine ⟨rfl,by simp [F];omega,fun t v ht=>by simp [F]at ht,fun b hb=>hb.elim,fun b hb=>hb,fun t=>?_,⟨fun k o hk=>by simp [go]at hk,fun k k' b _ hk=>by simp [er,go]at hk,fun k b hk=>by simp [er,go]at hk,fun b hb=>hb.elim,rfl,⟨rfl,Nat.le_refl _⟩,rfl,Nat.le_refl _,fun b _ _=>rfl⟩⟩
  rw [axu]
  simp only [Nat.zero_le,if_true,Nat.sub_zero]
  cases hx:(xi B (toL fn.params) ct.args x)[t]? with
  | none=>simp only [Option.getD_none,al]
  | some v=>
   have ht:=(List.getElem?_eq_some_iff.1 hx).1
   have hu:us[t]? = some us[t]:=List.getElem?_eq_getElem (by omega)
   simp only [Option.getD_some]
   have:(us.toArray++Array.replicate (fn.ntmps - us.toArray.size) undef).getD t undef=us[t]:=by
    rw [Array.getD_eq_getD_getElem?,Array.getElem?_append_left (by
     have:=(List.getElem?_eq_some_iff.1 hu).1
     simpa using this)]
    simp [hu]
   rw [this]
   exact l4 t v _ hx hu
 refine calls_of_wp hf hb (Code.wp_mono (fun e a' w' he=>?_) (h x l3 hpre F p0 _ w rfl rfl hst))
 have key:∀ p env M,St F p env M a' w'->aw6 (apu B env M (toL fn.results) ct.rt) (Q x)->(e=.normal\/e=.ret)->bodyPost P fn (fun e w'=>∃ r rs S,Q x r/\e=.returned (xn rs)/\Ext w w'/\(∀ b,S b->w.heap.size<=b/\b < w'.heap.size)/\
   kg (fun b=>b < w'.heap.size/\(ct.sh=true/\Ab b\/w.heap.size<=b)/\¬ S b) w' ct.rt r S rs) e a' w':=by
  intro p env M hs hr hee
  unfold aw6 at hr
  split at hr
  ·rename_i r hres
   obtain ⟨rs,p',M',S,k1,k2,k3,k4,k5,k6,k7⟩:=bgn (P:=P) (a:=a') hB (toL fn.results) ct.rt p env M _ hs.hp hs.slots hres
   rw [ge]at k1
   have hrun:(results fn a'.tmps).run P w'=.ok (xn rs) w':=by
    rw [ava,Array.mapM_eq_mapM_toList]
    simp only [Sem.run_bind,Sem.run_map,k1,Result.andThen_ok,Sem.run_pure]
    match rs with
    | []=>rfl
    | [u]=>rfl
    | u::u'::r=>simp [xn]
   have hpost:∃ r' rs' S,Q x r'/\Ending.returned (xn rs)=.returned (xn rs')/\Ext w w'/\(∀ b,S b->w.heap.size<=b/\b < w'.heap.size)/\kg (fun b=>b < w'.heap.size/\(ct.sh=true/\Ab b\/w.heap.size<=b)/\¬ S b) w' ct.rt r' S rs':=by
    refine ⟨r,rs,S,hr,rfl,⟨k2.os,k2.tape,k2.output,k2.size,fun b hb=>k2.old b hb (fun h=>h)⟩,fun b hb=>⟨(k2.lim b (k5 b hb)).2.1,(k2.lim b (k5 b hb)).1⟩,?_⟩
    rw [nx,Bool.or_eq_true]at hfl
    rcases hfl with hsh | hfl
    ·refine kg.keep (fun b hb=>⟨hb.1,?_,fun hS=>hb.2.2.1 (k5 b hS)⟩) _ _ _ _ k7
     rcases hb.2.1 with h1 | h1 | h1
     ·exact .inl ⟨hsh,h1⟩
     ·exact h1.elim
     ·exact .inr h1
    ·exact bcf _ hfl _ _ _ k7
   rcases hee with rfl | rfl
   ·exact ⟨hs.defers,_,hrun,hpost⟩
   ·exact ⟨hs.defers,_,hrun,hpost⟩
  ·exact hr.elim
 cases e with
 | normal=>obtain ⟨p,env,M,h1,h2⟩:=he;exact key p env M h1 h2 (.inl rfl)
 | ret=>obtain ⟨p,env,M,h1,h2⟩:=he;exact key p env M h1 h2 (.inr rfl)
 | exit id=>obtain ⟨p,env,M,h1,h2⟩:=he;exact h2.elim
 | goto l=>obtain ⟨p,env,M,h1,h2⟩:=he;exact h2.elim
 | panic ch=>exact he.elim
 | outgrown=>exact he.elim
theorem bqt (hB : TabOk P B) {f : FuncId} {fn : Func} {c : Code} (hf : P.funcs[f]? = some fn) (hb : fn.body = some c) (hn : (fn.name == "runtime.NumGoroutine") = false) (ct : Ct) (hmu : ct.mu = none)
  (hga:ct.ga=agL B fn) (hfl:orb ct.sh (ahu ct.rt)=true) (hlen:ct.ga.length<=fn.ntmps)
  (h:∀ x,ae (okL ct.args x)->ae (ct.pre x)->∀ (F:Fr) (p:Ow) (a:Act) (w:World),F.nt=fn.ntmps->F.fv=(fun _=>none)->St F p (aid 0 (xi B (toL fn.params) ct.args x)) [] a w->c.wp P (zo F (ask B (toL fn.results) ct.rt (fun r=>r=ct.res x))) a w):dg P f ct:=by
 refine ⟨akw hf hb hn,?_⟩
 simp only [hmu,bch]
 intro Ab w us x hA hrel hpre cs
 obtain ⟨e,w',fr,⟨r,rs,S,hr,h1⟩,h2⟩:=bng hB hf hb hn ct (fun x r=>r=ct.res x) hga hfl hlen h Ab w us x hA hrel hpre cs
 subst hr
 exact ⟨e,w',fr,⟨rs,S,h1⟩,h2⟩
theorem bqx (hΦ : m7 P Φ) (hB : TabOk P B) (hmix : P.follows .mixedOrders = true) {f : FuncId} {fn : Func} {c : Code} (hf : P.funcs[f]? = some fn) (hb : fn.body = some c) (hn : (fn.name == "runtime.NumGoroutine") = false) (ct : Ct) (hmu : ct.mu = none) (A : Ann) (cut : Nat -> Nat)
  (hga:ct.ga=agL B fn) (hfl:orb ct.sh (ahu ct.rt)=true) (hck:okC fn.ntmps cut c=true) (hlen:ct.ga.length<=fn.ntmps)
  (h:∀ x,ae (okL ct.args x)->ae (ct.pre x)->evF B Φ cut fn c A ct x (fun r=>r=ct.res x)):dg P f ct:=
 bqt hB hf hb hn ct hmu hga hfl hlen fun x h1 h2 F p a w e1 e2 hst=>act hΦ hB hmix cut c F A _ _ _ (by rw [e1];exact hck) (by rw [e2];exact t6 c) (h x h1 h2) p a w hst
end
end Go.Bm
/- The gi machine:what comes in,as data. -/
namespace Go.Bm
open Go.RowKit
def om (P:Program) (r:TypeId->T->Bool):List Field->Nat->T->Bool
 | [],_,.u=>true
 | [f],off,d=>bt [Nat.beq f.offset off,Nat.beq (P.cellsOf f.type) d.size,r f.type d]
 | f::g::l,off,.p a b=>nob (bt [Nat.beq f.offset off,Nat.beq (P.cellsOf f.type) a.size,r f.type a]) (om P r (g::l) (off+a.size) b)
 | _,_,_=>false
def gi (P:Program):Nat->TypeId->T->Bool
 | 0,_,_=>false
 | n+1,t,d=>match P.underlying t,d with
  | some (.int k),.int k'=>ac0 k k'
  | some .bool,.bool=>true
  | some .string,.str=>true
  | some (.slice e),.sl d=>bt [gi P n e d,Nat.beq (P.cellsOf e) d.size,neg (Nat.beq (P.bytesOf e) 0),neg (isZ d.size)]
  | some (.struct fs),d=>nob (Nat.beq (P.cellsOf t) d.size) (om P (gi P n) fs.toList 0 d)
  | _,_=>false
section
variable {H:Type} {enc:TypeId×Value->H} {P:Program} {w:World} {base:Nat} {spare:Nat->Bool} {held:Bool}
theorem bik {Im:Nat->Prop} {r:TypeId->T->Bool} {cs:List Value}:(l:List Field)->(off:Nat)->(d:T)->om P r l off d=true->(cs.drop off).length=d.size->
  (∀ f ∈ l,∀ d',r f.type d'=true->∃ y,aq Im w d' y ((cs.drop f.offset).take (P.cellsOf f.type)))->∃ y,aq Im w d y (cs.drop off)
 | [],off,.u,_,hl,_=>⟨(),by simp only [aq];exact List.eq_nil_of_length_eq_zero hl⟩
 | [f],off,d,h,hl,hf=>by
  have h':bt [Nat.beq f.offset off,Nat.beq (P.cellsOf f.type) d.size,r f.type d]=true:=by cases d <;> simpa only [om]using h
  simp only [br,b8,Bool.and_true,Bool.and_eq_true]at h'
  obtain ⟨y,hy⟩:=hf f (by simp) d h'.2.2
  have e1:=Nat.eq_of_beq_eq_true h'.1
  have e2:=Nat.eq_of_beq_eq_true h'.2.1
  rw [e1,e2,List.take_of_length_le (by omega)]at hy
  exact ⟨y,hy⟩
 | f::g::l,off,.p a b,h,hl,hf=>by
  simp only [om,bc,Bool.and_eq_true,br,b8,Bool.and_true]at h
  obtain ⟨⟨h1,h2,h3⟩,h4⟩:=h
  have e1:=Nat.eq_of_beq_eq_true h1
  have e2:=Nat.eq_of_beq_eq_true h2
  obtain ⟨y,hy⟩:=hf f (by simp) a h3
  simp only [T.size,aqr]at hl
  obtain ⟨z,hz⟩:=bik (g::l) (off+a.size) b h4 (by rw [List.length_drop]at hl ⊢;omega) (fun f' hf'=>hf f' (by simp [List.mem_cons]at hf' ⊢;exact .inr hf'))
  rw [e1,e2]at hy
  refine ⟨(y,z),?_⟩
  simp only [aq]
  refine ⟨_,_,?_,hy,hz⟩
  rw [← List.drop_drop,List.take_append_drop]
 | [],_,.int _,h,_,_=>by simp [om]at h
 | [],_,.bool,h,_,_=>by simp [om]at h
 | [],_,.str,h,_,_=>by simp [om]at h
 | [],_,.p _ _,h,_,_=>by simp [om]at h
 | [],_,.sl _,h,_,_=>by simp [om]at h
 | [],_,.pt _,h,_,_=>by simp [om]at h
 | [],_,.fn _ _,h,_,_=>by simp [om]at h
 | [],_,.any,h,_,_=>by simp [om]at h
 | _::_::_,_,.int _,h,_,_=>by simp [om]at h
 | _::_::_,_,.bool,h,_,_=>by simp [om]at h
 | _::_::_,_,.str,h,_,_=>by simp [om]at h
 | _::_::_,_,.u,h,_,_=>by simp [om]at h
 | _::_::_,_,.sl _,h,_,_=>by simp [om]at h
 | _::_::_,_,.pt _,h,_,_=>by simp [om]at h
 | _::_::_,_,.fn _ _,h,_,_=>by simp [om]at h
 | _::_::_,_,.any,h,_,_=>by simp [om]at h
theorem arm {e:TypeId}:∀ (l:List (DataW H)) (q:Nat->Bool),(DataW.weightsAll P e l).all q=true->∀ d ∈ l,(d.weights P e).all q=true
 | [],q,_,d,hd=>by cases hd
 | x::l,q,h,d,hd=>by
  simp only [DataW.weightsAll,List.all_append,Bool.and_eq_true]at h
  rcases List.mem_cons.1 hd with rfl | hd
  ·exact h.1
  ·exact arm l q h.2 d hd
theorem api:∀ (ts:List TypeId) (l:List (DataW H)) (q:Nat->Bool),(DataW.weightsEach P ts l).all q=true->∀ (i:Nat) t d,ts[i]? = some t->l[i]? = some d->(d.weights P t).all q=true
 | [],_,q,_,i,t,d,ht,_=>by simp at ht
 | _::_,[],q,_,i,t,d,_,hd=>by simp at hd
 | t0::ts,x::l,q,h,i,t,d,ht,hd=>by
  simp only [DataW.weightsEach,List.all_append,Bool.and_eq_true]at h
  cases i with
  | zero=>simp at ht hd;subst ht;subst hd;exact h.1
  | succ i=>exact api ts l q h.2 i t d (by simpa using ht) (by simpa using hd)
theorem bph:∀ (n:Nat) (t:TypeId) (d:T),gi P n t d=true->∀ (fuel:Nat) (cs:List Value) (x:DataW H×List MemPlace),DataW.trod enc P w base spare held fuel t cs=some x->(x.1.weights P t).all (·<=reachBytes)=true->
  ∃ y:d.den,aq (fun b=>b < w.heap.size) w d y cs:=by
 intro n
 induction n with
 | zero=>intro t d h;simp [gi]at h
 | succ n ih=>
  intro t d h fuel cs x hx hw
  unfold gi at h
  split at h
  ·rename_i k k' hu
   have:=abg h
   subst this
   obtain ⟨m,rfl,rfl,hwf⟩:=DataW.trod_int hu hx
   exact ⟨m,by simp only [aq,true_and];simpa [Lit.wf,inK]using hwf⟩
  ·rename_i hu
   obtain ⟨b,rfl,rfl⟩:=DataW.trod_bool hu hx
   exact ⟨b,by simp only [aq]⟩
  ·rename_i hu
   obtain ⟨s,rfl,rfl,hs⟩:=DataW.trod_string hu hx
   have hsz:s.size<=reachBytes:=by simpa [DataW.weights]using hw
   exact ⟨s,by simp only [aq,true_and];exact Nat.le_trans hsz (by decide)⟩
  ·rename_i e d' hu
   simp only [br,b8,Bool.and_true,Bool.and_eq_true]at h
   obtain ⟨h1,h2,h3,h4⟩:=h
   have e2:=Nat.eq_of_beq_eq_true h2
   rcases DataW.trod_slice hu hx with ⟨rfl,rfl⟩ | ⟨a,len,cap,elems,rest,m,_,rfl,rfl,hb,hl,hm,hlen,hel,_,_⟩
   ·exact ⟨[],by simp only [aq];exact ⟨none,0,rfl,⟨Nat.zero_le _,Nat.le_refl _⟩,fun _=>⟨rfl,rfl⟩,fun a ha=>by cases ha⟩⟩
   ·have hpos:0 < d'.size:=by
     cases hz:d'.size with
     | zero=>rw [hz]at h4;simp [isZ]at h4
     | succ _=>omega
    have hbpos:0 < P.bytesOf e:=by
     cases hz:P.bytesOf e with
     | zero=>rw [hz]at h3;simp at h3
     | succ _=>omega
    simp only [DataW.weights,hu,List.all_cons,List.all_append,Bool.and_eq_true,decide_eq_true_eq,List.length_map]at hw
    obtain ⟨w1,w2,w3⟩:=hw
    have hnb:len<=nb:=by
     have h5:elems.length+rest.length<=(elems.length+rest.length) * P.bytesOf e:=Nat.le_mul_of_pos_right _ hbpos
     simp only [reachBytes]at w1
     unfold nb;omega
    have hall:∀ i,i < len->∃ y:d'.den,∃ csi,w.cells? base (a.add (i * d'.size)) d'.size=some csi/\aq (fun b=>b < w.heap.size) w d' y csi:=fun i hi=>by
     have hq:=hel i hi
     rw [e2]at hq
     have hei:elems[i]? = some elems[i]:=List.getElem?_eq_getElem (by omega)
     rw [hei]at hq
     obtain ⟨csi,q1,q2⟩:=Option.bind_eq_some_iff.1 hq
     obtain ⟨y,hy⟩:=ih e d' h1 m csi _ q2 (arm _ _ w2 _ (List.mem_map_of_mem (List.getElem_mem (by omega))))
     exact ⟨y,csi,q1,hy⟩
    classical
    let f:Nat->d'.den:=fun i=>if hi:i < len then (hall i hi).choose else d'.dflt
    refine ⟨(List.range len).map f,?_⟩
    have hlen':((List.range len).map f).length=len:=by simp
    simp only [aq]
    refine ⟨some a,cap,by rw [hlen'],⟨by rw [hlen'];exact hnb,by rw [hlen'];exact hl⟩,(fun h=>nomatch h),fun a' ha' hp=>?_⟩
    cases ha'
    rw [hlen']at hp
    obtain ⟨y0,cs0,c1,c2⟩:=hall 0 hp
    obtain ⟨g1,g2,g3⟩:=World.cells?_some c1
    have hc0:=g3 0 hpos
    have hl0:0 < cs0.length:=by omega
    rw [List.getElem?_eq_getElem hl0]at hc0
    have hadd0:(a.add (0 * d'.size)).add 0=a:=by rw [Nat.zero_mul];unfold Addr.add;simp
    rw [hadd0]at hc0
    have hspot:a.spot=none:=by
     unfold World.cell? at hc0
     split at hc0
     ·split at hc0
      ·cases hc0
      ·rename_i hs;simpa using hs
     ·cases hc0
    have hblk:a.block < w.heap.size:=by
     unfold World.cell? at hc0
     split at hc0
     ·rename_i hb;exact (Array.getElem?_eq_some_iff.1 hb).1
     ·cases hc0
    refine ⟨hspot,hblk,fun i y hy=>?_⟩
    rw [List.getElem?_map]at hy
    by_cases hi:i < len
    ·rw [List.getElem?_range hi]at hy
     simp only [Option.map_some,Option.some.injEq]at hy
     have hf:f i=(hall i hi).choose:=by simp only [f,dif_pos hi]
     rw [hf]at hy
     obtain ⟨csi,q1,q2⟩:=(hall i hi).choose_spec
     rw [hy]at q2
     obtain ⟨r1,r2,r3⟩:=World.cells?_some q1
     refine ⟨csi,fun j u hu'=>?_,q2⟩
     have hj:j < d'.size:=by have:=(List.getElem?_eq_some_iff.1 hu').1;omega
     have:=r3 j hj
     obtain ⟨b,o,sp⟩:=a
     simp only at hspot
     subst hspot
     rw [Addr.add_lit,Addr.add_lit]at this
     rw [this];exact hu'
    ·rw [List.getElem?_eq_none (by simpa using hi)]at hy;cases hy
  ·rename_i _ fs hu
   simp only [bc,Bool.and_eq_true]at h
   have e1:=Nat.eq_of_beq_eq_true h.1
   obtain ⟨xs,m,_,rfl,hl,hxl,hf⟩:=DataW.trod_struct hu hx
   simp only [DataW.weights,hu]at hw
   have:=bik (w:=w) (Im:=fun b=>b < w.heap.size) (cs:=cs) fs.toList 0 _ h.2 (by simp only [List.drop_zero];omega) (fun f hfm d' hd'=>by
    obtain ⟨i,hi,rfl⟩:=List.getElem_of_mem hfm
    have hfi:fs[i]? = some fs[i]:=by simp at hi;simp [hi]
    have hq:=hf i _ hfi
    have hi':i < xs.length:=by simp at hi;omega
    rw [List.getElem?_eq_getElem hi']at hq
    have hww:=api _ _ _ hw i fs[i].type xs[i].1 (by simp at hi;simp [hi]) (by simp [hi'])
    simpa using ih _ d' (by simpa using hd') m _ _ hq hww)
   simpa only [List.drop_zero]using this
  ·cases h
end
end Go.Bm
/- The gi machine:what a statement asks of a law. -/
namespace Go.Bm
open Go.RowKit
def bm7 (args:List T) (ga:List Bool):Ct:=⟨args,ga,fun _=>[],[(false,.fz .bool)],fun _=>(true,()),false,none⟩
theorem law_of_ct {P:Program} {f:FuncId} {args:List T} {ga:List Bool} (h:dg P f (bm7 args ga)) {vs:List Value} {w:World} {x:bi args} (hr:oy (fun b=>b < w.heap.size) w ga args x vs) :
  Calls P f vs.toArray w fun e w'=>e=.returned (.bool true)/\Below w.heap.size w w':=
 (h.2 (fun b=>b < w.heap.size) w vs x (fun _ hb=>hb) hr trivial).mono fun e w' ⟨rs,S,he,hx,_,hres⟩=>by
  simp only [bm7,kg]at hres
  obtain ⟨u,us',us,S1,S2,rfl,_,g2,_,_,_,hrel,rfl⟩:=hres
  have:=g2 trivial
  subst this
  simp only [Rel,aq,List.cons.injEq,and_true]at hrel
  subst hrel
  exact ⟨he,hx.os,hx.tape.t,hx.output,hx.size,fun k hk=>hx.old k hk⟩
end Go.Bm
/- The gi machine:what a function's law is made of:loops,tables of contracts,measures of data. -/
namespace Go.Bm
open Go.RowKit
def aj (f:Func):Code:=match f.body with | some c=>c | none=>.skip
def lkp:List (Nat×Ct)->FuncId->Option Ct
 | [],_=>none
 | (k,c)::r,f=>bif Nat.beq k f then some c else lkp r f
theorem ba {P:Program}:m7 P (lkp []):=fun f ct h=>by cases h
theorem am {P:Program} {k:Nat} {c:Ct} {r:List (Nat×Ct)} (h:dg P k c) (hr:m7 P (lkp r)):m7 P (lkp ((k,c)::r)):=by
 intro f ct hf
 simp only [lkp]at hf
 cases hb:Nat.beq k f with
 | true=>
  rw [hb]at hf
  have:=Nat.eq_of_beq_eq_true hb
  subst this
  cases hf
  exact h
 | false=>rw [hb]at hf;exact hr f ct hf
def aw:List (Nat×Nat)->Nat->Nat
 | [],_=>0
 | (k,c)::r,f=>bif Nat.beq k f then c else aw r f
theorem ca {S:Type} {body:S->(S->Prop)->Prop} (R:S->Prop) (μ:S->Nat)
  (h:∀ s next,R s->(∀ s',R s'->μ s' < μ s->next s')->body s next) {s:S} (hs:R s):bu body s:=by
 have key:∀ n s,R s->μ s < n->vl body n s:=by
  intro n
  induction n with
  | zero=>intro s _ h;omega
  | succ n ih=>intro s hs hn;exact h s _ hs fun s' hs' hl=>ih s' hs' (by omega)
 exact ⟨μ s+1,key _ s hs (Nat.lt_succ_self _)⟩
theorem nh {n i0:Int} {body:(Int×Unit)×Unit->((Int×Unit)×Unit->Prop)->Prop} (P:Int->Prop) (hn:i0<=n) (h0:P i0)
  (hs:∀ i next,i0<=i->i < n->P i->(P (i+1)->next ((i+1,()),()))->body ((i,()),()) next) (he:∀ next,P n->body ((n,()),()) next):bu body ((i0,()),()):=by
 refine ca (fun s=>i0<=s.1.1/\s.1.1<=n/\P s.1.1) (fun s=>(n - s.1.1).toNat) ?_ ⟨Int.le_refl _,hn,h0⟩
 rintro ⟨⟨i,_⟩,_⟩ next ⟨h1,h2,h3⟩ hnx
 dsimp only at h1 h2 h3 hnx
 by_cases e:i=n
 ·subst e;exact he next h3
 ·exact hs i next h1 (by omega) h3 fun h4=>hnx _ ⟨by dsimp only;omega,by dsimp only;omega,h4⟩ (by dsimp only;omega)
theorem aay {α:Type} (l:List α) (d:α) {i:Int} (h0:0<=i) (h1:i < l.length):l.drop i.toNat=l.getD i.toNat d::l.drop (i+1).toNat:=by
 have h:i.toNat < l.length:=by omega
 rw [List.drop_eq_getElem_cons h,show (i+1).toNat=i.toNat+1 from by omega,List.getD_eq_getElem?_getD,List.getElem?_eq_getElem h]
 rfl
theorem acf {α:Type} (l:List α) {i:Int} (h1:(l.length:Int)<=i):l.drop i.toNat=[]:=List.drop_eq_nil_of_le (by omega)
theorem af3 {α:Type} (l:List α) (d:α) {i:Int} (h0:0<=i) (h1:i < l.length):l.take (i+1).toNat=l.take i.toNat++[l.getD i.toNat d]:=by
 have h:i.toNat < l.length:=by omega
 rw [show (i+1).toNat=i.toNat+1 from by omega,List.take_succ_eq_append_getElem h,List.getD_eq_getElem?_getD,List.getElem?_eq_getElem h]
 rfl
theorem ak5 {α:Type} (l:List α) {i:Int} (h1:(l.length:Int)<=i):l.take i.toNat=l:=List.take_of_length_le (by omega)
theorem gf {α:Type} (l:List α) (d:α) {i:Int} (h0:0<=i) (h1:i < l.length):l.getD i.toNat d ∈ l:=by
 have h:i.toNat < l.length:=by omega
 rw [List.getD_eq_getElem?_getD,List.getElem?_eq_getElem h]
 exact List.getElem_mem h
theorem au {n:Int}:inK .i64 n<->-9223372036854775808<=n/\n<=9223372036854775807:=by
 simp [inK,IntKind.min,IntKind.max,IntKind.signed,IntKind.bits]
theorem fy:nb=140737488355328:=rfl
theorem be {b:Bool} {x y:Prop} (h1:b=true->x) (h2:b=false->y):cnd b x y:=⟨h1,h2⟩
theorem bf {p:Prop} [Decidable p] {x y:Prop} (h1:p->x) (h2:¬ p->y):cnd (decide p) x y:=⟨fun h=>h1 (of_decide_eq_true h),fun h=>h2 (of_decide_eq_false h)⟩
theorem dn {S:Type} {k:S->Prop} {f:(S->Prop)->Prop} (R:S->Prop) (hk:∀ s,R s->k s) (hf:∀ k',(∀ s,R s->k' s)->f k'):fk k f:=hf k hk
theorem d7 {P : Program} {B : Tab} {Φ : FuncId -> Option Ct} (hΦ : m7 P Φ) (hB : TabOk P B) (hmix : P.follows .mixedOrders = true) {f : FuncId} {fn : Func} {c : Code} (hf : P.funcs[f]? = some fn) (hb : fn.body = some c) (hn : (fn.name == "runtime.NumGoroutine") = false) (ct : Ct) (hmu : ct.mu = none) (A : Ann) (cut : Nat -> Nat)
  (hga:ct.ga=agL B fn) (hfl:orb ct.sh (ahu ct.rt)=true) (hck:okC fn.ntmps cut c=true) (hlen:ct.ga.length<=fn.ntmps)
  (W:bi ct.args->(js ct.rt->Prop)->Prop) (hw:∀ x K,evF B Φ cut fn c A ct x K=W x K) (hm:∀ x,ae (okL ct.args x)->ae (ct.pre x)->W x (fun r=>r=ct.res x)):dg P f ct:=
 bqx hΦ hB hmix hf hb hn ct hmu A cut hga hfl hck hlen fun x h1 h2=>(hw x _).mpr (hm x h1 h2)
end Go.Bm
/- The gi machine:an argument of a law,as it comes in. -/
namespace Go.Bm
open Go.RowKit Go.WideShapes
def bm1 (P:Program) (t:TypeId):Bool:=match P.underlying t with | some (.struct _)=>true | _=>false
theorem open_arg {H:Type} {enc:TypeId×Value->H} {P:Program} {W:World} {base b1:Nat} {spare:Nat->Bool} {held:Bool} {t:TypeId} {v:Value} {dd:DataW H} {ps:List MemPlace} (n:Nat) (d:T) (g:Bool)
  (hty:gi P n t d=true) (hg:bm1 P t=g) (hv:Value.okWide P W .any b1 t v) (hk:DataW.Trod enc P W base spare held t v dd ps) (hw:(dd.weights P t).all (·<=reachBytes)=true) :
  ∃ (y:d.den) (vs:List Value),(g=true->v=.agg vs.toArray)/\(g=false->vs=[v])/\aq (fun b=>b < W.heap.size) W d y vs:=by
 obtain ⟨fuel,hf⟩:=hk
 obtain ⟨y,hy⟩:=bph n t d hty fuel _ _ hf hw
 refine ⟨y,v.cells.toList,fun h=>?_,fun h=>?_,hy⟩
 ·subst hg
  simp only [bm1]at h
  split at h
  ·rename_i fs hu
   obtain ⟨cs,rfl,_⟩:=okWide_struct hu hv
   simp [Value.cells]
  ·cases h
 ·subst hg
  cases n with
  | zero=>simp [gi]at hty
  | succ n=>
   unfold gi at hty
   split at hty
   ·rename_i k k' hu;obtain ⟨m,rfl⟩:=okWide_int hu hv;rfl
   ·rename_i hu;obtain ⟨m,rfl⟩:=okWide_bool hu hv;rfl
   ·rename_i hu;obtain ⟨m,rfl⟩:=okWide_string hu hv;rfl
   ·rename_i e d' hu;obtain ⟨a,l,c,rfl⟩:=okWide_slice hu hv;rfl
   ·rename_i fs hu;simp [bm1,hu]at h
   ·cases hty
end Go.Bm
/- The gi machine:a function that writes what it is handed. -/
namespace Go.Bm
open Go.RowKit
section
variable {w:World}
structure Inn (w:World) (j j':Nat) (N:Mem) (v:V) (vs:List Value) (S:Nat->Prop) (β:Nat->Value) (σ:Nat->Nat->Prop):Prop where
 le:j<=j'
 keys:∀ k,er N k->∃ i,j<=i/\i < j'/\k=cid 9000 i
 objs:∀ (Im:Nat->Prop) k ob,go N k=some ob->Rel Im w ob.o ob.x (σ k) [β k]
 sub:∀ k b,er N k->σ k b->S b
 dis:∀ k k' b,k ≠ k'->er N k->er N k'->σ k b->¬ σ k' b
 val:∀ (Im:Nat->Prop) (β':Nat->Value) (M':Mem),(∀ k,er N k->β' k=β k/\go M' k=go N k)->ai β' M' Im w v vs
variable {P:Program} {B:Tab} {Φ:FuncId->Option Ct}
end
end Go.Bm
/- The gi machine:a function that writes what lies in the box that it is handed. -/
namespace Go.Bm
open Go.RowKit
def ac8 (W:Wt):Ct:=⟨[],[],fun _=>[],[],fun _=>(),false,some (.w W)⟩
def aqd {α:Type}:List α->List α
 | []=>[]
 | _::r=>r
def au5:O->Nat->V
 | .pt _,k=>.ad k [.de]
 | _,k=>.ref k []
def amq (B:Tab) (env:Env) (M:Mem):List ResultVar->(rs:List (Bool×O))->Option (js rs×List Ev×Mem)
 | [],[]=>some ((),[],M)
 | r::rs,q::qs=>(match bdt B env M r with
  | some v=>bif nr (mz q.1 v)then (match bhf M q.2 (mz q.1 v)with
   | some (x,e,M')=>(match amq B (rr env e) M' rs qs with
    | some (y,e',M'')=>some ((x,y),ap e e',M'')
    | none=>none)
   | none=>none)else none
  | none=>none)
 | _,_=>none
def aqm (B:Tab) (rs:List ResultVar) (W:Wt) (K:W.o.strip.den->js W.rt->Prop) (env:Env) (M:Mem):Prop:=
 match amq B env M rs W.rt with
 | some (r,e,M')=>(match an2 ((gt env 0).evs e)with
  | some k=>(match go M' k with
   | some ob=>(match wkO ob W.o with
    | some z=>K z r
    | none=>False)
   | none=>False)
  | none=>False)
 | none=>False
def bdf (B:Tab) (rs:List ResultVar) (W:Wt) (K:W.o.strip.den->js W.rt->Prop):Ex->Env->Mem->Prop
 | .ex _,_,_=>False
 | .go _,_,_=>False
 | .nm,env,M=>aqm B rs W K env M
 | .rt,env,M=>aqm B rs W K env M
def pc (B:Tab) (Φ:FuncId->Option Ct) (cut:Nat->Nat) (fn:Func) (c:Code) (A:Ann) (W:Wt) (x:W.o.strip.den) (y:bi W.as) (K:W.o.strip.den->js W.rt->Prop):Prop:=
 ev B Φ cut c A (bdf B (toL fn.results) W K) (aid 0 (au5 W.o (cid 9000 0)::xi B (aqd (toL fn.params)) W.as y)) [(cid 9000 0,⟨W.o,x⟩)]
section
variable {F:Fr} {a:Act} {w:World} {P:Program} {B:Tab} {Φ:FuncId->Option Ct}
theorem bbl (hB:TabOk P B):(rs:List ResultVar)->(qs:List (Bool×O))->(p:Ow)->(env:Env)->(M:Mem)->(y:js qs)->(e:List Ev)->(M':Mem)->Hp F p M w->(∀ t,al p.β M (Imm F p M w) w (gt env t) (a.tmps.getD t undef))->amq B env M rs qs=some (y,e,M')->
  ∃ us p',∃ S:Nat->Prop,(rs.mapM (bby a.tmps)).run P w=.ok us w/\Tr F p M w e p' M' w/\(∀ b,p.L b->p'.L b)/\(∀ b,S b->p'.L b)/\(∀ b,S b->¬ p.L b)/\kg (Imm F p' M' w) w qs y S us
 | [],[],p,env,M,y,e,M',hp,hs,h=>by
  simp only [amq,Option.some.injEq,Prod.mk.injEq]at h
  obtain ⟨_,rfl,rfl⟩:=h
  exact ⟨[],p,fun _=>False,rfl,Tr.refl hp,fun b hb=>hb,fun b hb=>hb.elim,fun b hb=>hb.elim,by simp only [kg]⟩
 | [],_::_,p,env,M,y,e,M',hp,hs,h=>by simp [amq]at h
 | _::_,[],p,env,M,y,e,M',hp,hs,h=>by simp [amq]at h
 | r::rs,q::qs,p,env,M,y,e,M',hp,hs,h=>by
  simp only [amq]at h
  split at h
  ·rename_i v hv
   cases hc:nr (mz q.1 v)with
   | false=>rw [hc]at h;cases h
   | true=>
    rw [hc]at h
    simp only [cond_true]at h
    split at h
    ·rename_i x e1 M1 ho
     split at h
     ·rename_i z e2 M2 hz
      cases h
      obtain ⟨u,u1,u2⟩:=bfc (P:=P) (a:=a) hB hp hs r v hv
      obtain ⟨vs,g1,g2,g3⟩:=bew hp u2 hc
      obtain ⟨p1,S,t1,t2,t3,t4⟩:=bfs hp q.2 (mz q.1 v) vs x e1 g3 ho
      obtain ⟨us,p2,S2,k1,k3,k4,k5,k6,k7⟩:=bbl hB rs qs p1 (rr env e1) M1 z e2 M' t1.hp (fun t=>by rw [uc];exact t1.s _ _ (hs t)) hz
      refine ⟨u::us,p2,fun b=>S b\/S2 b,?_,t1.trans k3,fun b hb=>k4 b ((t2 b).2 (.inl hb)),fun b hb=>hb.elim (fun h=>k4 b ((t2 b).2 (.inr h))) (k5 b),fun b hb=>hb.elim (t3 b) (fun h hL=>k6 b h ((t2 b).2 (.inl hL))),?_⟩
      ·simp only [List.mapM_cons,Sem.run_bind,u1,Result.andThen_ok,k1,Sem.run_pure]
      ·simp only [kg]
       exact ⟨u,us,vs,S,S2,rfl,g1,g2,fun b hb=>.inl hb,fun b hb=>.inr hb,fun b hb hb'=>k6 b hb' ((t2 b).2 (.inr hb)),Rel.keep k3.keep _ _ _ _ (fun _ _=>rfl) t4,k7⟩
     ·cases h
    ·cases h
  ·cases h
theorem wt_q (hΦ : m7 P Φ) (hB : TabOk P B) (hmix : P.follows .mixedOrders = true) {f : FuncId} {fn : Func} {c : Code} (hf : P.funcs[f]? = some fn) (hb : fn.body = some c) (hn : (fn.name == "runtime.NumGoroutine") = false) (W : Wt) (pr : W.o.strip.den -> bi W.as -> Prop) (Q : W.o.strip.den -> bi W.as -> W.o.strip.den -> js W.rt -> Prop) (A : Ann) (cut : Nat -> Nat)
  (hro:ajt W.o=true) (hga:false::W.ag=agL B fn) (hck:okC fn.ntmps cut c=true) (hlen:W.ag.length+1<=fn.ntmps) (hnw:noW [0] c=true)
  (h:∀ x y,ae (W.o.strip.oks x)->ae (okL W.as y)->pr x y->pc B Φ cut fn c A W x y (Q x y)) :
  ∀ (A:Nat->Prop) (w:World) (u:Value) (x:W.o.strip.den) (us:List Value) (y:bi W.as) (S:Nat->Prop),(∀ b,A b->b < w.heap.size)->(∀ b,S b->b < w.heap.size/\¬ A b)->
  Rel (fun b=>A b) w W.o x S [u]->oy A w W.ag W.as y us->pr x y->
  Calls P f (u::us).toArray w fun e w'=>∃ z r rs R S',Q x y z r/\e=.returned (xn rs)/\ExtS w w' S/\(∀ b,R b->w.heap.size<=b/\b < w'.heap.size)/\(∀ b,S' b->(S b\/w.heap.size<=b/\b < w'.heap.size)/\¬ R b)/\
   Rel (fun b=>b < w'.heap.size/\(A b\/S b\/w.heap.size<=b)/\¬ S' b/\¬ R b) w' W.o z S' [u]/\
   kg (fun b=>b < w'.heap.size/\(A b\/S b\/w.heap.size<=b)/\¬ S' b/\¬ R b) w' W.rt r R rs:=by
 intro Ab w u x us y S hAlt hSlt hr hargs hpre
 let a0:Act:={ tmps:=(u::us).toArray++Array.replicate (fn.ntmps - (u::us).toArray.size) undef,defers:=[] }
 have hoks:ae (W.o.strip.oks x):=by
  have h1:=Rel.frz (Im':=fun _=>True) (fun _ _=>trivial) W.o x S [u] (fun _ _=>trivial) hr
  have h2:=qe _ _ (aq.ok _ _ _ h1)
  exact h2
 let F:Fr:=⟨w,w,Ab,S,fun _=>False,fn.ntmps,akl (fun _=>none) [0] a0⟩
 let p0:Ow:=⟨fun _=>u,fun _=>S,fun _=>False⟩
 have hkk:gid=cid 9000 0:=by decide
 replace h:=fun h1 h2=>h x y h1 h2 hpre
 unfold pc at h
 generalize cid 9000 0=kk at hkk h
 generalize hM0:([(kk,⟨W.o,x⟩)]:Mem)=M0
 have hg0:go M0 kk=some ⟨W.o,x⟩:=by rw [← hM0,fx,if_pos rfl]
 have hlive:∀ k,er M0 k->k=kk:=fun k hk=>by
  unfold er at hk
  rw [← hM0,fx]at hk
  split at hk
  ·rename_i e;exact e.symm
  ·simp [go]at hk
 have himm:∀ b,Ab b->Imm F p0 M0 w b:=fun b hb=>⟨hAlt b hb,.inl hb,fun h=>h,fun k hk hs=>(hSlt b hs).2 hb⟩
 obtain ⟨m,e⟩:∃ m,W.ag=ap ((aqd (toL fn.params)).map (fun q=>(B.τ q).agg)) (ab7 false m):=by
  unfold agL at hga
  cases hq:toL fn.params with
  | nil=>
   rw [hq]at hga
   simp only [List.map_nil,ap]at hga
   cases hm:fn.nfree with
   | zero=>rw [hm]at hga;cases hga
   | succ m=>
    rw [hm]at hga
    simp only [ab7,List.cons.injEq]at hga
    exact ⟨m,by simp only [aqd,List.map_nil,ap];exact hga.2⟩
  | cons q qs=>
   rw [hq]at hga
   simp only [List.map_cons,ap,List.cons.injEq]at hga
   exact ⟨fn.nfree,hga.2⟩
 obtain ⟨l1,l2,l3,l4⟩:=anp (B:=B) (β:=p0.β) (M:=M0) himm W.ag W.as y us hargs (aqd (toL fn.params)) m e
 have he:=h hoks l3
 rw [hM0]at he
 have hsz:a0.tmps.size=fn.ntmps:=by simp [a0];omega
 have hget:∀ t,t < (u::us).length->a0.tmps.getD t undef=(u::us).getD t undef:=fun t ht=>by
  simp only [a0]
  rw [Array.getD_eq_getD_getElem?,Array.getElem?_append_left (by simpa using ht)]
  simp [List.getD_eq_getElem?_getD]
 have hrel0:Rel (Imm F p0 M0 w) w W.o x S [u]:=Rel.keep (fun b hb=>⟨himm b hb,rfl⟩) _ _ _ _ (fun _ _=>rfl) hr
 have hp0:Hp F p0 M0 w:=⟨fun k ob hk=>by
   have:=hlive k (c8 hk)
   subst this
   rw [hg0]at hk;cases hk
   exact hrel0,fun k k' b hne hk hk'=>absurd ((hlive k hk).trans (hlive k' hk').symm) hne,
  fun k b hk hs=>⟨(hSlt b hs).1,.inl ⟨by rw [hlive k hk,hkk];exact Nat.le_refl _,hs⟩⟩,fun b hb=>hb.elim,rfl,⟨rfl,Nat.le_refl _⟩,rfl,Nat.le_refl _,fun b _ _=>rfl⟩
 have hst:St F p0 (aid 0 (au5 W.o kk::xi B (aqd (toL fn.params)) W.as y)) M0 a0 w:=by
  refine ⟨rfl,hsz,fun t v ht=>?_,fun b hb=>hb.elim,fun b hb=>hb,fun t=>?_,hp0⟩
  ·simp only [F,akl]at ht
   cases hm:acz t [0]with
   | true=>rw [hm]at ht;simpa using ht
   | false=>rw [hm]at ht;cases ht
  ·rw [axu]
   simp only [Nat.zero_le,if_true,Nat.sub_zero]
   cases t with
   | zero=>
    rw [hget 0 (by simp)]
    simp only [List.getElem?_cons_zero,Option.getD_some,List.getD_cons_zero]
    have key:∀ (o:O) (z:o.strip.den),ajt o=true->go M0 kk=some ⟨o,z⟩->Rel (Imm F p0 M0 w) w o z S [u]->al p0.β M0 (Imm F p0 M0 w) w (au5 o kk) u:=fun o z ho hgo hrl=>by
     cases o with
     | pt o1=>
      simp only [au5,al,ai]
      refine ⟨u,rfl,?_⟩
      simp only [Rel]at hrl
      obtain ⟨bb,us1,ty',S1,r1,_⟩:=hrl
      simp only [List.cons.injEq,and_true]at r1
      exact ⟨_,cellsOf w bb 0 o1.size,bb,0,hgo,by simp only [gok],by simp only [get];exact ⟨_,rfl⟩,by simp only [dy],by simp only [p0,r1,res],r1⟩
     | sl e=>
      simp only [au5,al,ai]
      exact ⟨_,none,hgo,by simp only [gok],⟨_,by simp only [get];rfl⟩,by simp only [res,p0]⟩
     | fz t=>cases ho
     | p a b=>cases ho
     | mp e e'=>cases ho
     | op e=>cases ho
    exact key W.o x hro hg0 hrel0
   | succ t=>
    simp only [List.getElem?_cons_succ]
    cases hx:(xi B (aqd (toL fn.params)) W.as y)[t]? with
    | none=>simp only [Option.getD_none,al]
    | some v=>
     have ht:=(List.getElem?_eq_some_iff.1 hx).1
     have hu:us[t]? = some us[t]:=List.getElem?_eq_getElem (by omega)
     simp only [Option.getD_some]
     rw [hget (t+1) (by simp;omega)]
     have:(u::us).getD (t+1) undef=us[t]:=by simp [List.getD_eq_getElem?_getD,hu]
     rw [this]
     exact l4 t v _ hx hu
 refine calls_of_wp hf hb (Code.wp_mono (fun e a' w' he=>?_) (act hΦ hB hmix cut c F A _ _ _ hck (t8 c hnw (t6 c)) he p0 _ w hst))
 have key:∀ p env M,St F p env M a' w'->aqm B (toL fn.results) W (Q x y) env M->(e=.normal\/e=.ret)->bodyPost P fn (fun e w'=>∃ z r rs R S',Q x y z r/\e=.returned (xn rs)/\ExtS w w' S/\(∀ b,R b->w.heap.size<=b/\b < w'.heap.size)/\(∀ b,S' b->(S b\/w.heap.size<=b/\b < w'.heap.size)/\¬ R b)/\
   Rel (fun b=>b < w'.heap.size/\(Ab b\/S b\/w.heap.size<=b)/\¬ S' b/\¬ R b) w' W.o z S' [u]/\
   kg (fun b=>b < w'.heap.size/\(Ab b\/S b\/w.heap.size<=b)/\¬ S' b/\¬ R b) w' W.rt r R rs) e a' w':=by
  intro p env M hs hr hee
  unfold aqm at hr
  split at hr
  ·rename_i r e1 M1 hres
   split at hr
   ·rename_i k hroot
    split at hr
    ·rename_i ob hob
     split at hr
     ·rename_i z hz
      obtain ⟨rs,p',R,k1,t,k4,k5,k6,k7⟩:=bbl (P:=P) (a:=a') hB (toL fn.results) W.rt p env M _ e1 M1 hs.hp hs.slots hres
      rw [ge]at k1
      have hrun:(results fn a'.tmps).run P w'=.ok (xn rs) w':=by
       rw [ava,Array.mapM_eq_mapM_toList]
       simp only [Sem.run_bind,Sem.run_map,k1,Result.andThen_ok,Sem.run_pure]
       match rs with
       | []=>rfl
       | [u]=>rfl
       | u::u'::r=>simp [xn]
      have hu0:a'.tmps.getD 0 undef=u:=by
       have:=hs.fix 0 (a0.tmps.getD 0 undef) (by simp [F,akl,acz])
       rw [this,hget 0 (by simp)];rfl
      have hs0:=t.s _ _ (hs.slots 0)
      rw [hu0]at hs0
      obtain ⟨w1,w2⟩:=ai5 hz
      have hrk:=t.hp.objs k _ hob
      have hbox:u=p'.β k:=bdq t.hp hob hroot (e:=[]) rfl hs0
      rw [← hbox]at hrk
      obtain ⟨S',s1,s2⟩:=ady ob.o W.o w1 ob.x _ (p'.σ k) [u] w2 hrk
      have hlk:=c8 hob
      have hRl:∀ b,R b->w.heap.size<=b/\b < w'.heap.size:=fun b hb=>⟨(t.hp.lim b (k5 b hb)).2.1,(t.hp.lim b (k5 b hb)).1⟩
      have hSR:∀ b,p'.σ k b->¬ R b:=fun b hb hR=>(t.hp.lim b (k5 b hR)).2.2 k hlk hb
      have hIm:∀ b,Imm F p' M1 w' b->(b < w'.heap.size/\(Ab b\/S b\/w.heap.size<=b)/\¬ S' b/\¬ R b):=fun b hb=>⟨hb.1,hb.2.1,fun h=>hb.2.2.2 k hlk (s1 b h),fun h=>hb.2.2.1 (k5 b h)⟩
      have hpost:∃ z r rs' R S',Q x y z r/\Ending.returned (xn rs)=.returned (xn rs')/\ExtS w w' S/\(∀ b,R b->w.heap.size<=b/\b < w'.heap.size)/\(∀ b,S' b->(S b\/w.heap.size<=b/\b < w'.heap.size)/\¬ R b)/\
        Rel (fun b=>b < w'.heap.size/\(Ab b\/S b\/w.heap.size<=b)/\¬ S' b/\¬ R b) w' W.o z S' [u]/\
        kg (fun b=>b < w'.heap.size/\(Ab b\/S b\/w.heap.size<=b)/\¬ S' b/\¬ R b) w' W.rt r R rs':=by
       refine ⟨z,r,rs,R,S',hr,rfl,⟨t.hp.os,t.hp.tape,t.hp.output,t.hp.size,fun b hb hn=>t.hp.old b hb hn⟩,hRl,fun b hb=>⟨?_,hSR b (s1 b hb)⟩,s2 _ hIm (fun b hb hnb=>?_),kg.keep hIm _ _ _ _ k7⟩
       ·have:=t.hp.own k b hlk (s1 b hb)
        rcases this.2 with ⟨_,h1⟩ | h1
        ·exact .inl h1
        ·exact .inr ⟨h1,this.1⟩
       ·have:=t.hp.own k b hlk hb
        refine ⟨this.1,?_,hnb,hSR b hb⟩
        rcases this.2 with ⟨_,h1⟩ | h1
        ·exact .inr (.inl h1)
        ·exact .inr (.inr h1)
      rcases hee with rfl | rfl
      ·exact ⟨hs.defers,_,hrun,hpost⟩
      ·exact ⟨hs.defers,_,hrun,hpost⟩
     ·exact hr.elim
    ·exact hr.elim
   ·exact hr.elim
  ·exact hr.elim
 cases e with
 | normal=>obtain ⟨p,env,M,h1,h2⟩:=he;exact key p env M h1 h2 (.inl rfl)
 | ret=>obtain ⟨p,env,M,h1,h2⟩:=he;exact key p env M h1 h2 (.inr rfl)
 | exit id=>obtain ⟨p,env,M,h1,h2⟩:=he;exact h2.elim
 | goto l=>obtain ⟨p,env,M,h1,h2⟩:=he;exact h2.elim
 | panic ch=>exact he.elim
 | outgrown=>exact he.elim
theorem acx (hΦ : m7 P Φ) (hB : TabOk P B) (hmix : P.follows .mixedOrders = true) {f : FuncId} {fn : Func} {c : Code} (hf : P.funcs[f]? = some fn) (hb : fn.body = some c) (hn : (fn.name == "runtime.NumGoroutine") = false) (W : Wt) (A : Ann) (cut : Nat -> Nat)
  (hro:ajt W.o=true) (hga:false::W.ag=agL B fn) (hck:okC fn.ntmps cut c=true) (hlen:W.ag.length+1<=fn.ntmps) (hnw:noW [0] c=true)
  (h:∀ x y,ae (W.o.strip.oks x)->ae (okL W.as y)->ae (W.pre x y)->pc B Φ cut fn c A W x y (fun z r=>z=W.new x y/\r=W.res x y)):dg P f (ac8 W):=by
 refine ⟨akw hf hb hn,fun Ab w u x us y S hAlt hSlt hr hargs hpre cs=>?_⟩
 obtain ⟨e,w',fr,⟨z,r,rs,R,S',hq,h1⟩,h2⟩  :=wt_q hΦ hB hmix hf hb hn W (fun x y=>ae (W.pre x y)) (fun x y z r=>z=W.new x y/\r=W.res x y) A cut hro hga hck hlen hnw h Ab w u x us y S hAlt hSlt hr hargs hpre cs
 obtain ⟨rfl,rfl⟩:=hq
 exact ⟨e,w',fr,⟨rs,R,S',h1⟩,h2⟩
end
end Go.Bm
/- The gi machine:a function that writes what lies in a box,handed an address within it. -/
namespace Go.Bm
open Go.RowKit
section
variable {F:Fr} {a:Act} {w:World} {P:Program} {B:Tab} {Φ:FuncId->Option Ct}
end
end Go.Bm
/- The gi machine:what a walk asks picks one end:so a law that bounds the results names them. -/
namespace Go.Bm
open Go.RowKit
def Tri {R:Type} (X:(R->Prop)->Prop):Prop:=(∀ K,¬ X K)\/(∀ K,X K)\/∃ r,∀ K,X K<->K r
section
variable {R R':Type}
theorem Tri.no:Tri (fun _:R->Prop=>False):=.inl fun _ h=>h
theorem Tri.sel (r:R):Tri (fun K:R->Prop=>K r):=.inr (.inr ⟨r,fun _=>Iff.rfl⟩)
theorem Tri.bind {X:(R->Prop)->Prop} (h:Tri X) {F:(R'->Prop)->R->Prop} (hF:∀ r,Tri (fun K=>F K r)):Tri (fun K=>X (F K)):=by
 rcases h with h | h | ⟨r,h⟩
 ·exact .inl fun K=>h _
 ·exact .inr (.inl fun K=>h _)
 ·have:(fun K=>X (F K))=(fun K=>F K r):=funext fun K=>propext (h _)
  rw [this];exact hF r
theorem Tri.mono {X:(R->Prop)->Prop} (h:Tri X) {K K':R->Prop} (hk:∀ r,K r->K' r) (hx:X K):X K':=by
 rcases h with h | h | ⟨r,h⟩
 ·exact (h _ hx).elim
 ·exact h _
 ·exact (h _).2 (hk _ ((h _).1 hx))
theorem Tri.conj {X:(R->Prop)->Prop} (h:Tri X):(l:List Prop)->Tri (fun K=>conj l (X K))
 | []=>h
 | p::l=>by
  by_cases hp:p
  ·have:(fun K=>Bm.conj (p::l) (X K))=(fun K=>Bm.conj l (X K)):=funext fun K=>propext ⟨fun h=>h.2,fun h=>⟨hp,h⟩⟩
   rw [this];exact Tri.conj h l
  ·exact .inl fun K hk=>hp hk.1
theorem Tri.imp {X:(R->Prop)->Prop} (h:Tri X) (g:Prop) (l:List Prop):Tri (fun K=>imp g l (X K)):=by
 cases l with
 | nil=>exact h
 | cons p l=>
  by_cases hp:g->Bm.conj l p
  ·have:(fun K=>Bm.imp g (p::l) (X K))=X:=funext fun K=>propext ⟨fun h=>h.2,fun h=>⟨hp,h⟩⟩
   rw [this];exact h
  ·exact .inl fun K hk=>hp hk.1
theorem Tri.imps {X:(R->Prop)->Prop} (h:Tri X):(l:List Prop)->Tri (fun K=>imps l (X K))
 | []=>h
 | p::l=>by
  by_cases hp:p
  ·have:(fun K=>Bm.imps (p::l) (X K))=(fun K=>Bm.imps l (X K)):=funext fun K=>propext ⟨fun h=>h hp,fun h _=>h⟩
   rw [this];exact Tri.imps h l
  ·exact .inr (.inl fun K hk=>absurd hk hp)
theorem Tri.cnd {X Y:(R->Prop)->Prop} (hx:Tri X) (hy:Tri Y) (b:Bool):Tri (fun K=>cnd b (X K) (Y K)):=by
 cases b with
 | true=>
  have:(fun K=>Bm.cnd true (X K) (Y K))=X:=funext fun K=>propext ⟨fun h=>h.1 rfl,fun h=>⟨fun _=>h,fun h=>nomatch h⟩⟩
  rw [this];exact hx
 | false=>
  have:(fun K=>Bm.cnd false (X K) (Y K))=Y:=funext fun K=>propext ⟨fun h=>h.2 rfl,fun h=>⟨fun h=>(nomatch h),fun _=>h⟩⟩
  rw [this];exact hy
theorem Tri.bif {X Y:(R->Prop)->Prop} (hx:Tri X) (hy:Tri Y) (b:Bool):Tri (fun K=>bif b then X K else Y K):=by
 cases b with
 | true=>exact hx
 | false=>exact hy
theorem ar0 {S:Type} (body:(R->Prop)->S->(S->Prop)->Prop) (h:∀ s,Tri (fun P:(S ⊕ R)->Prop=>body (fun r=>P (.inr r)) s (fun s'=>P (.inl s')))):∀ (n:Nat) (s:S),Tri (fun K=>vl (body K) n s)
 | 0,s=>Tri.no
 | n+1,s=>(h s).bind (F:=fun K p=>match p with | .inl s'=>vl (body K) n s' | .inr r=>K r) (fun p=>by
   cases p with
   | inl s'=>exact ar0 body h n s'
   | inr r=>exact Tri.sel r)
theorem bfj {S:Type} (body:(R->Prop)->S->(S->Prop)->Prop) (h:∀ s,Tri (fun P:(S ⊕ R)->Prop=>body (fun r=>P (.inr r)) s (fun s'=>P (.inl s')))) (K:R->Prop):∀ (n:Nat) (s:S),vl (body K) n s->vl (body K) (n+1) s
 | 0,s,hi=>hi.elim
 | n+1,s,hi=>(h s).mono (K:=fun p=>match p with | .inl s'=>vl (body K) n s' | .inr r=>K r) (K':=fun p=>match p with | .inl s'=>vl (body K) (n+1) s' | .inr r=>K r) (fun p hp=>by
   cases p with
   | inl s'=>exact bfj body h K n s' hp
   | inr r=>exact hp) hi
theorem bfi {S:Type} (body:(R->Prop)->S->(S->Prop)->Prop) (h:∀ s,Tri (fun P:(S ⊕ R)->Prop=>body (fun r=>P (.inr r)) s (fun s'=>P (.inl s')))) (K:R->Prop) (s:S) {n m:Nat} (hnm:n<=m) (hi:vl (body K) n s):vl (body K) m s:=by
 induction hnm with
 | refl=>exact hi
 | step _ ih=>exact bfj body h K _ s ih
theorem bk8 {S:Type} (body:(R->Prop)->S->(S->Prop)->Prop) (h:∀ s,Tri (fun P:(S ⊕ R)->Prop=>body (fun r=>P (.inr r)) s (fun s'=>P (.inl s')))) (s:S):Tri (fun K=>bu (body K) s):=by
 by_cases hv:∃ n,∀ K,vl (body K) n s
 ·obtain ⟨n,hn⟩:=hv
  exact .inr (.inl fun K=>⟨n,hn K⟩)
 by_cases hs:∃ n r,∀ K,vl (body K) n s<->K r
 ·obtain ⟨n,r,hn⟩:=hs
  refine .inr (.inr ⟨r,fun K=>⟨fun ⟨m,hm⟩=>?_,fun hk=>⟨n,(hn K).2 hk⟩⟩⟩)
  have h1:=bfi body h K s (Nat.le_max_left m n) hm
  have h2:=bfi body h (fun x=>x=r) s (Nat.le_max_right m n) ((hn _).2 rfl)
  rcases ar0 body h (max m n) s with h3 | h3 | ⟨r',h3⟩
  ·exact (h3 _ h1).elim
  ·exact (hv ⟨_,h3⟩).elim
  ·have:r'=r:=(h3 (fun x=>x=r)).1 h2
   subst this
   exact (h3 K).1 h1
 ·refine .inl fun K ⟨m,hm⟩=>?_
  rcases ar0 body h m s with h3 | h3 | ⟨r',h3⟩
  ·exact h3 _ hm
  ·exact hv ⟨_,h3⟩
  ·exact hs ⟨m,r',h3⟩
end
section
variable {B:Tab} {Φ:FuncId->Option Ct} {R:Type}
abbrev EM:=Env×Mem
abbrev EX:=Ex×Env×Mem
theorem aqh (all:List Oper):(ops:List Oper)->(Φ:FuncId->Option Ct)->(env:Env)->(M:Mem)->Tri (fun K:EM->Prop=>twG B Φ all ops env M (fun env M=>K (env,M)))
 | [],Φ,env,M=>Tri.sel (env,M)
 | o::rest,Φ,env,M=>by
  simp only [twG]
  split
  ·exact Tri.bif Tri.no ((aqh all rest Φ _ _).conj _) _
  ·split
   ·exact Tri.bif ((aqh all rest Φ _ _).imp _ _) Tri.no _
   ·exact Tri.no
theorem axg (all tl:List Oper):(ops:List Oper)->(env:Env)->(M:Mem)->Tri (fun K:Env->Prop=>dwG B Φ all tl ops env M K)
 | [],env,M=>Tri.sel env
 | o::rest,env,M=>by
  simp only [dwG]
  split
  ·exact Tri.bif ((axg all tl rest _ _).conj _) Tri.no _
  ·split
   ·exact Tri.bif ((axg all tl rest _ _).imp _ _) Tri.no _
   ·exact Tri.no
theorem bny (all:List Oper):(ops:List Oper)->(env:Env)->(M:Mem)->Tri (fun K:EM->Prop=>twS B Φ all ops env M (fun env M=>K (env,M))):=
 fun _ _ _=>Tri.no
theorem Tri.ifP {X Y:(R->Prop)->Prop} (hx:Tri X) (hy:Tri Y) (p:Prop):Tri (fun K=>ifP p (X K) (Y K)):=by
 by_cases hp:p
 ·have:(fun K=>Bm.ifP p (X K) (Y K))=X:=funext fun K=>propext ⟨fun h=>h.1 hp,fun h=>⟨fun _=>h,fun h=>absurd hp h⟩⟩
  rw [this];exact hx
 ·have:(fun K=>Bm.ifP p (X K) (Y K))=Y:=funext fun K=>propext ⟨fun h=>h.2 hp,fun h=>⟨fun h=>absurd h hp,fun _=>h⟩⟩
  rw [this];exact hy
theorem amk (all:List Oper):(ops:List Oper)->(env:Env)->(M:Mem)->Tri (fun K:EM->Prop=>twQ B Φ all ops env M (fun env M=>K (env,M)))
 | [],env,M=>Tri.sel (env,M)
 | o::rest,env,M=>by
  simp only [twQ]
  split
  ·exact Tri.bif Tri.no ((amk all rest _ _).conj _) _
  ·split
   ·exact Tri.bif (Tri.bif ((amk all rest _ _).imp _ _) (Tri.bif Tri.no (Tri.ifP ((amk all rest _ _).conj _) (amk all rest _ _) _) _) _) Tri.no _
   ·exact Tri.no
theorem bpt:(ops:List Oper)->(env:Env)->(X:Mem)->Tri (fun K:EM->Prop=>bx B Φ ops env X (fun env M=>K (env,M))):=
 fun _ _ _=>Tri.no
theorem ao9 (ks as:List Nat) (M0:Mem):(D:List Bool)->(ops:List Oper)->(env:Env)->(X:Mem)->Tri (fun K:EM->Prop=>hx D ks as B Φ M0 ops env X (fun env M=>K (env,M)))
 | D,[],env,X=>Tri.sel (env,X)
 | D,o::r,env,X=>by
  simp only [hx]
  split
  ·refine Tri.bif ?_ Tri.no _
   exact Tri.bif ((ao9 ks as M0 (ahf D) r _ _).conj _) Tri.no _
  ·exact Tri.no
theorem bj5 (ss:Shs) (os:Obs) (ks:List Nat) (env:Env) (s:vf ss×pp os):Tri (fun K:EX->Prop=>onK ss os ks env (fun e env M=>K (e,env,M)) s):=
 Tri.imps (Tri.imps (Tri.sel (Ex.nm,_,_)) _) _
theorem blc {R:Type} (ss:Shs) (os:Obs) (env:Env) (M:Mem) (F:(R->Prop)->vf ss×pp os->Prop) (hF:∀ s,Tri (fun K=>F K s)):Tri (fun K=>aut ss os env M (F K)):=by
 unfold aut
 split
 ·exact hF _
 ·exact Tri.no
theorem amx {R:Type} (ss:Shs) (os:Obs) (F:(R->Prop)->vf ss×pp os->Prop) (hF:∀ s,Tri (fun K=>F K s)) (G:(R->Prop)->EX->Prop) (hG:∀ p,Tri (fun K=>G K p)):(p:EX)->Tri (fun K=>xc ss os (F K) (fun e env M=>G K (e,env,M)) p.1 p.2.1 p.2.2)
 | (.nm,env,M)=>blc ss os env M F hF
 | (.ex id,env,M)=>hG (.ex id,env,M)
 | (.rt,env,M)=>hG (.rt,env,M)
 | (.go l,env,M)=>hG (.go l,env,M)
theorem ml (cut:Nat->Nat) (hno:∀ i,Nat.beq (cut i) 999998=false):(c:Code)->(A:Ann)->(env:Env)->(M:Mem)->Tri (fun K:EX->Prop=>ev B Φ cut c A (fun e env M=>K (e,env,M)) env M)
 | .skip,_,env,M=>Tri.sel (Ex.nm,env,M)
 | .ret,_,env,M=>Tri.sel (Ex.rt,env,M)
 | .exit id,_,env,M=>Tri.sel (Ex.ex id,env,M)
 | .goto l,_,env,M=>Tri.sel (Ex.go l,env,M)
 | .label _,_,env,M=>Tri.sel (Ex.nm,env,M)
 | .scope c,A,env,M=>by
  simp only [ev]
  refine (ml cut hno c A env M).bind (F:=fun K p=>scpK (fun e env M=>K (e,env,M)) p.1 p.2.1 p.2.2) (fun p=>?_)
  obtain ⟨e,env',M'⟩:=p
  cases e with
  | nm=>exact Tri.sel _
  | ex _=>exact Tri.sel _
  | rt=>exact Tri.sel _
  | go _=>exact Tri.no
 | .seq x y,.j ss os ks A,env,M=>by
  simp only [ev]
  refine Tri.bif ?_ Tri.no _
  have hs:∀ p:EX,Tri (fun K:EX->Prop=>aew (fun env M=>ev B Φ cut y A.snd (fun e env M=>K (e,env,M)) env M) (fun e env M=>K (e,env,M)) p.1 p.2.1 p.2.2):=fun p=>by
   obtain ⟨e,env',M'⟩:=p
   cases e with
   | nm=>exact ml cut hno y A.snd env' M'
   | ex _=>exact Tri.sel _
   | rt=>exact Tri.sel _
   | go _=>exact Tri.sel _
  have hj:=fun p=>amx (R:=EX) ss os (fun K=>onK ss os ks env (aew (fun env M=>ev B Φ cut y A.snd (fun e env M=>K (e,env,M)) env M) (fun e env M=>K (e,env,M)))) (fun s=>Tri.imps (Tri.imps (hs (Ex.nm,_,_)) _) _) (fun K p=>aew (fun env M=>ev B Φ cut y A.snd (fun e env M=>K (e,env,M)) env M) (fun e env M=>K (e,env,M)) p.1 p.2.1 p.2.2) hs p
  exact (ml cut hno x A.fst env M).bind (F:=fun K p=>xc ss os (onK ss os ks env (aew (fun env M=>ev B Φ cut y A.snd (fun e env M=>K (e,env,M)) env M) (fun e env M=>K (e,env,M)))) (aew (fun env M=>ev B Φ cut y A.snd (fun e env M=>K (e,env,M)) env M) (fun e env M=>K (e,env,M))) p.1 p.2.1 p.2.2) hj
 | .seq x y,.n,env,M=>by
  simp only [ev]
  refine (ml cut hno x _ env M).bind (F:=fun K p=>aew (fun env M=>ev B Φ cut y _ (fun e env M=>K (e,env,M)) env M) (fun e env M=>K (e,env,M)) p.1 p.2.1 p.2.2) (fun p=>?_)
  obtain ⟨e,env',M'⟩:=p
  cases e with
  | nm=>exact ml cut hno y _ env' M'
  | ex _=>exact Tri.sel _
  | rt=>exact Tri.sel _
  | go _=>exact Tri.sel _
 | .seq x y,.s a b,env,M=>by
  simp only [ev]
  refine (ml cut hno x _ env M).bind (F:=fun K p=>aew (fun env M=>ev B Φ cut y _ (fun e env M=>K (e,env,M)) env M) (fun e env M=>K (e,env,M)) p.1 p.2.1 p.2.2) (fun p=>?_)
  obtain ⟨e,env',M'⟩:=p
  cases e with
  | nm=>exact ml cut hno y _ env' M'
  | ex _=>exact Tri.sel _
  | rt=>exact Tri.sel _
  | go _=>exact Tri.sel _
 | .seq x y,.l a b d f,env,M=>by
  simp only [ev]
  refine (ml cut hno x _ env M).bind (F:=fun K p=>aew (fun env M=>ev B Φ cut y _ (fun e env M=>K (e,env,M)) env M) (fun e env M=>K (e,env,M)) p.1 p.2.1 p.2.2) (fun p=>?_)
  obtain ⟨e,env',M'⟩:=p
  cases e with
  | nm=>exact ml cut hno y _ env' M'
  | ex _=>exact Tri.sel _
  | rt=>exact Tri.sel _
  | go _=>exact Tri.sel _
 | .region id ops draw,_,env,M=>by
  have hK:∀ p:EM,Tri (fun K:EX->Prop=>K (Ex.nm,clr p.1,p.2)):=fun p=>Tri.sel _
  have hT:∀ (all:List Oper) (l:List Oper) (env:Env) (M:Mem),Tri (fun K:EX->Prop=>twG B Φ all l env M (fun env M=>K (Ex.nm,clr env,M))):=fun all l env M=>
   (aqh all l Φ env M).bind (F:=fun K p=>K (Ex.nm,clr p.1,p.2)) hK
  have hH:∀ (D:List Bool) (M:Mem) (all l1 l2:List Oper) (env:Env),Tri (fun K:EX->Prop=>hx D [] [] B Φ M l1 env [] (fun env X=>bif nogd env then twG B Φ all l2 env (ap X M) (fun env M=>K (Ex.nm,clr env,M))else False)):=fun D M all l1 l2 env=>
   (ao9 [] [] M D l1 env []).bind (F:=fun K p=>bif nogd p.1 then twG B Φ all l2 p.1 (ap p.2 M) (fun env M=>K (Ex.nm,clr env,M))else False) (fun p=>Tri.bif (hT _ _ _ _) Tri.no _)
  simp only [ev]
  cases draw with
  | false=>
   refine Tri.bif (Tri.bif ((amk (toL ops) (toL ops) env M).bind (F:=fun K p=>K (.nm,clr p.1,p.2)) hK) Tri.no _) (Tri.bif ?_ (Tri.bif (hT _ _ _ _) Tri.no _) _) _
   exact (bny (toL ops) (toL ops) env M).bind (F:=fun K p=>K (Ex.nm,clr p.1,p.2)) hK
  | true=>
   rw [hno id]
   simp only [cond_false]
   refine Tri.bif ?_ (Tri.bif ?_ (Tri.bif ?_ (Tri.bif ?_ (Tri.bif ?_ ?_ _) _) _) _) _
   ·exact (bpt (toL ops) _ []).bind (F:=fun K p=>K (Ex.nm,clr p.1,ap p.2 _)) (fun p=>Tri.sel _)
   ·exact Tri.bif ((ao9 (bh4 (cut id)) [] M _ _ env []).bind (F:=fun K p=>bif nob (nogd p.1) (ad8 (bh4 (cut id)) [] B Φ (acw (gq (hrC (cut id)) (toL ops)) (mC (cut id))) (abe (gq (hrC (cut id)) (toL ops)) (mC (cut id))) (oh (mC (cut id)) (gq (hrC (cut id)) (toL ops))) p.1 (ap p.2 M))then twG B Φ (gq (hrC (cut id)) (toL ops)) (oh (mC (cut id)) (gq (hrC (cut id)) (toL ops))) p.1 (ap p.2 M) (fun env M=>K (Ex.nm,clr env,M))else False) (fun p=>Tri.bif (hT _ _ _ _) Tri.no _)) Tri.no _
   ·generalize (bif Nat.ble 5000 (cut id)then alf env (toL ops)else [])=as
    generalize (bif bgs (cut id)then pg [] (agi env (toL ops)) M env else (env,M))=q
    obtain ⟨env1,M1⟩:=q
    exact Tri.bif ((ao9 [] as M1 _ _ env1 []).bind (F:=fun K p=>bif nob (nogd p.1) (ad8 [] as B Φ (acw (gq false (toL ops)) (Nat.sub (cut id) (arq (cut id)))) (abe (gq false (toL ops)) (Nat.sub (cut id) (arq (cut id)))) (oh (Nat.sub (cut id) (arq (cut id))) (gq false (toL ops))) p.1 (ap p.2 M1))then twG B Φ (gq false (toL ops)) (oh (Nat.sub (cut id) (arq (cut id))) (gq false (toL ops))) p.1 (ap p.2 M1) (fun env M=>K (Ex.nm,clr env,M))else False) (fun p=>Tri.bif (hT _ _ _ _) Tri.no _)) Tri.no _
   ·generalize pg [] (aow env (toL ops)) M env=q
    obtain ⟨env1,M1⟩:=q
    exact Tri.bif ((ao9 (Φ:=arz Φ) [] [] M1 [] _ env1 []).bind (F:=fun K p=>bif nogd p.1 then twG B (arz Φ) (toL ops) (oh (Nat.sub (cut id) 1000) (toL ops)) p.1 (ap p.2 M1) (fun env M=>K (Ex.nm,clr env,M))else False) (fun p=>Tri.bif ((aqh (toL ops) _ (arz Φ) _ _).bind (F:=fun K p=>K (Ex.nm,clr p.1,p.2)) hK) Tri.no _)) Tri.no _
   ·exact Tri.bif (hH _ _ _ _ _ _) Tri.no _
   ·exact Tri.bif ((axg _ _ _ env M).bind (F:=fun K env=>twG B Φ (toL ops) (oh (cut id) (toL ops)) env M (fun env M=>K (Ex.nm,clr env,M))) (fun env=>hT _ _ _ _)) Tri.no _
 | .cond (.tmp t) x y,.j ss os ks A,env,M=>by
  simp only [ev]
  refine Tri.bif ?_ Tri.no _
  have hj:=fun p=>amx (R:=EX) ss os (fun K=>onK ss os ks env (fun e env M=>K (e,env,M))) (bj5 ss os ks env) (fun K p=>K p) (fun p=>Tri.sel p) p
  exact Tri.cnd ((ml cut hno x A.fst env M).bind (F:=fun K p=>xc ss os (onK ss os ks env (fun e env M=>K (e,env,M))) (fun e env M=>K (e,env,M)) p.1 p.2.1 p.2.2) hj)
   ((ml cut hno y A.snd env M).bind (F:=fun K p=>xc ss os (onK ss os ks env (fun e env M=>K (e,env,M))) (fun e env M=>K (e,env,M)) p.1 p.2.1 p.2.2) hj) _
 | .cond (.tmp t) x y,.n,env,M=>by
  simp only [ev]
  exact Tri.bif (Tri.cnd (ml cut hno x _ env M) (ml cut hno y _ env M) _) Tri.no _
 | .cond (.tmp t) x y,.s _ _,env,M=>by
  simp only [ev]
  exact Tri.bif (Tri.cnd (ml cut hno x _ env M) (ml cut hno y _ env M) _) Tri.no _
 | .cond (.tmp t) x y,.l _ _ _ _,env,M=>by
  simp only [ev]
  exact Tri.bif (Tri.cnd (ml cut hno x _ env M) (ml cut hno y _ env M) _) Tri.no _
 | .block id c,.j ss os ks A,env,M=>by
  simp only [ev]
  refine Tri.bif ?_ Tri.no _
  refine (ml cut hno c A env M).bind (F:=fun K p=>ak1 id (xc ss os (onK ss os ks env (fun e env M=>K (e,env,M))) (fun e env M=>K (e,env,M))) p.1 p.2.1 p.2.2) (fun p=>?_)
  have hj:=fun p=>amx (R:=EX) ss os (fun K=>onK ss os ks env (fun e env M=>K (e,env,M))) (bj5 ss os ks env) (fun K p=>K p) (fun p=>Tri.sel p) p
  obtain ⟨e,env',M'⟩:=p
  cases e with
  | nm=>exact hj (Ex.nm,env',M')
  | ex i=>simp only [ak1];exact Tri.bif (hj (Ex.nm,env',M')) (hj (Ex.ex i,env',M')) _
  | rt=>exact hj (Ex.rt,env',M')
  | go l=>exact hj (Ex.go l,env',M')
 | .block id c,.n,env,M=>tri_blk cut id c .n env M (ml cut hno c .n env M)
 | .block id c,.s a b,env,M=>tri_blk cut id c (.s a b) env M (ml cut hno c (.s a b) env M)
 | .block id c,.l a b d e,env,M=>tri_blk cut id c (.l a b d e) env M (ml cut hno c (.l a b d e) env M)
 | .loop c,.l ss os ks A,env,M=>by
  simp only [ev]
  refine Tri.bif ?_ Tri.no _
  split
  ·rename_i q hq
   refine bk8 (fun (K:EX->Prop) (s:vf ss×pp os) next=>imps (okS ss s.1) (imps (okO os s.2) (ev B Φ cut c A (xc ss os next (fun e env M=>K (e,env,M))) (ap (akx ss s.1) (kept q.2 ks)) (mc os s.2)))) (fun s=>?_) q.1
   refine Tri.imps (Tri.imps ?_ _) _
   exact (ml cut hno c A _ _).bind (F:=fun (P:((vf ss×pp os) ⊕ EX)->Prop) p=>xc ss os (fun s'=>P (.inl s')) (fun e env M=>P (.inr (e,env,M))) p.1 p.2.1 p.2.2)
    (amx (R:=(vf ss×pp os) ⊕ EX) ss os (fun P s'=>P (Sum.inl s')) (fun s'=>Tri.sel _) (fun P p=>P (Sum.inr p)) (fun p=>Tri.sel _))
  ·exact Tri.no
 | .loop c,.n,env,M=>by simp only [ev];exact Tri.no
 | .loop c,.s _ _,env,M=>by simp only [ev];exact Tri.no
 | .loop c,.j _ _ _ _,env,M=>by simp only [ev];exact Tri.no
 | .cond (.const _) _ _,_,_,_=>by simp only [ev];exact Tri.no
 | .cond (.func _) _ _,_,_,_=>by simp only [ev];exact Tri.no
 | .cond (.global _) _ _,_,_,_=>by simp only [ev];exact Tri.no
 | .rangeFunc _ _ _ _,_,_,_=>by simp only [ev];exact Tri.no
 | .refuse _,_,_,_=>by simp only [ev];exact Tri.no
where
 tri_blk (cut:Nat->Nat) (id:Nat) (c:Code) (A:Ann) (env:Env) (M:Mem) (h:Tri (fun K:EX->Prop=>ev B Φ cut c A (fun e env M=>K (e,env,M)) env M)):Tri (fun K:EX->Prop=>ev B Φ cut c A (ak1 id (fun e env M=>K (e,env,M))) env M):=by
  refine h.bind (F:=fun K p=>ak1 id (fun e env M=>K (e,env,M)) p.1 p.2.1 p.2.2) (fun p=>?_)
  obtain ⟨e,env',M'⟩:=p
  cases e with
  | nm=>exact Tri.sel _
  | ex i=>simp only [ak1];exact Tri.bif (Tri.sel (Ex.nm,env',M')) (Tri.sel (Ex.ex i,env',M')) _
  | rt=>exact Tri.sel _
  | go _=>exact Tri.sel _
end
end Go.Bm
/- The gi machine:data has a world;a law that bounds the results names them. -/
namespace Go.Bm
open Go.RowKit
def reT:T->Bool
 | .int _=>true
 | .bool=>true
 | .str=>true
 | .u=>true
 | .p a b=>nob (reT a) (reT b)
 | .sl e=>reT e
 | .pt t=>reT t
 | _=>false
def World.put (w:World) (us:List Value):World:={ w with heap:=w.heap.push (.cells us.toArray 0 (0,0)) }
theorem y6 (w:World) (us:List Value):(World.put w us).heap.size=w.heap.size+1:=by simp [World.put]
theorem ahz (w:World) (us:List Value) (b:Nat) (h:b < w.heap.size):(World.put w us).heap[b]? = w.heap[b]?:=by
 simp only [World.put]
 rw [Array.getElem?_push,if_neg (by omega)]
theorem bf9 (w:World) (us:List Value):(World.put w us).heap[w.heap.size]? = some (.cells us.toArray 0 (0,0)):=by
 simp only [World.put]
 rw [Array.getElem?_push,if_pos rfl]
theorem azo (w:World) (us:List Value) (o:Nat) (vs:List Value) (h:∀ (j:Nat) (u:Value),vs[j]? = some u->us[o+j]? = some u):ol (World.put w us) w.heap.size o vs:=by
 intro j u hu
 simp only [World.cell?,bf9]
 simpa using h j u hu
theorem bc5 {n:Nat}:∀ (vss:List (List Value)),(∀ us ∈ vss,us.length=n)->∀ (i:Nat) (us:List Value),vss[i]? = some us->∀ (j:Nat) (u:Value),us[j]? = some u->vss.flatten[i * n+j]? = some u
 | [],_,i,us,h,_,_,_=>by simp at h
 | vs::vss,hl,0,us,h,j,u,hj=>by
  simp only [List.getElem?_cons_zero,Option.some.injEq]at h
  subst h
  rw [List.flatten_cons,Nat.zero_mul,Nat.zero_add,List.getElem?_append_left (List.getElem?_eq_some_iff.1 hj).1]
  exact hj
 | vs::vss,hl,i+1,us,h,j,u,hj=>by
  simp only [List.getElem?_cons_succ]at h
  have:=bc5 vss (fun us hu=>hl us (List.mem_cons_of_mem _ hu)) i us h j u hj
  have hv:=hl vs (List.mem_cons_self ..)
  rw [List.flatten_cons,List.getElem?_append_right (by rw [hv,Nat.succ_mul];omega),hv,show (i+1) * n+j - n=i * n+j by rw [Nat.succ_mul];omega]
  exact this
abbrev lt (w:World):Nat->Prop:=fun b=>b < w.heap.size
theorem afz {w w':World} (h1:w.heap.size<=w'.heap.size) (h2:∀ b,b < w.heap.size->w'.heap[b]? = w.heap[b]?):jc (lt w) (lt w') w w':=
 fun b hb=>⟨Nat.lt_of_lt_of_le hb h1,h2 b hb⟩
theorem bm8 {e:T} (ih:∀ (x:e.den),e.ok x->∀ w:World,∃ w' vs,w.heap.size<=w'.heap.size/\(∀ b,b < w.heap.size->w'.heap[b]? = w.heap[b]?)/\aq (lt w') w' e x vs) :
  (l:List e.den)->(∀ y ∈ l,e.ok y)->∀ w:World,∃ w',∃ vss:List (List Value),w.heap.size<=w'.heap.size/\(∀ b,b < w.heap.size->w'.heap[b]? = w.heap[b]?)/\vss.length=l.length/\∀ (i:Nat) (x:e.den) (us:List Value),l[i]? = some x->vss[i]? = some us->aq (lt w') w' e x us
 | [],_,w=>⟨w,[],Nat.le_refl _,fun _ _=>rfl,rfl,fun i x us h=>by simp at h⟩
 | x::l,h,w=>by
  obtain ⟨w1,vs,a1,a2,a3⟩:=ih x (h x (List.mem_cons_self ..)) w
  obtain ⟨w2,vss,b1,b2,b3,b4⟩:=bm8 ih l (fun y hy=>h y (List.mem_cons_of_mem _ hy)) w1
  refine ⟨w2,vs::vss,Nat.le_trans a1 b1,fun b hb=>(b2 b (Nat.lt_of_lt_of_le hb a1)).trans (a2 b hb),by simp [b3],fun i y us hi hu=>?_⟩
  cases i with
  | zero=>
   simp only [List.getElem?_cons_zero,Option.some.injEq]at hi hu
   subst hi;subst hu
   exact aq.keep (afz b1 b2) _ _ _ a3
  | succ i=>exact b4 i y us (by simpa using hi) (by simpa using hu)
theorem rep:(t:T)->reT t=true->(x:t.den)->t.ok x->∀ w:World,∃ w' vs,w.heap.size<=w'.heap.size/\(∀ b,b < w.heap.size->w'.heap[b]? = w.heap[b]?)/\aq (lt w') w' t x vs
 | .int k,_,x,h,w=>⟨w,[.int k x],Nat.le_refl _,fun _ _=>rfl,by simp only [aq,true_and];exact h⟩
 | .bool,_,x,h,w=>⟨w,[.bool x],Nat.le_refl _,fun _ _=>rfl,by simp only [aq]⟩
 | .str,_,x,h,w=>⟨w,[.string x],Nat.le_refl _,fun _ _=>rfl,by simp only [aq,true_and];exact h⟩
 | .u,_,x,h,w=>⟨w,[],Nat.le_refl _,fun _ _=>rfl,by simp only [aq]⟩
 | .p a b,hr,x,h,w=>by
  simp only [reT,bc,Bool.and_eq_true]at hr
  obtain ⟨w1,va,a1,a2,a3⟩:=rep a hr.1 x.1 h.1 w
  obtain ⟨w2,vb,b1,b2,b3⟩:=rep b hr.2 x.2 h.2 w1
  refine ⟨w2,va++vb,Nat.le_trans a1 b1,fun c hc=>(b2 c (Nat.lt_of_lt_of_le hc a1)).trans (a2 c hc),?_⟩
  simp only [aq]
  exact ⟨va,vb,rfl,aq.keep (afz b1 b2) _ _ _ a3,b3⟩
 | .pt t,hr,x,h,w=>by
  obtain ⟨w1,vs,a1,a2,a3⟩:=rep t hr x h w
  refine ⟨World.put w1 vs,[.pointer (some ⟨w1.heap.size,0,none⟩)],by rw [y6];omega,fun b hb=>by rw [ahz _ _ _ (by omega)];exact a2 b hb,?_⟩
  simp only [aq]
  refine ⟨w1.heap.size,0,vs,rfl,by simp only [lt,y6];omega,azo _ _ _ _ (fun j u hu=>by rw [Nat.zero_add];exact hu),?_⟩
  exact aq.keep (afz (by rw [y6];omega) (fun b hb=>ahz _ _ b hb)) _ _ _ a3
 | .sl e,hr,l,h,w=>by
  have h':l.length<=nb/\∀ y ∈ l,e.ok y:=h
  obtain ⟨w1,vss,a1,a2,a3,a4⟩:=bm8 (rep e hr) l h'.2 w
  have hlen:∀ us ∈ vss,us.length=e.size:=fun us hu=>by
   obtain ⟨i,hi,rfl⟩:=List.getElem_of_mem hu
   exact aq.len _ _ _ (a4 i (l[i]'(by omega)) _ (List.getElem?_eq_getElem (by omega)) (List.getElem?_eq_getElem hi))
  refine ⟨World.put w1 vss.flatten,[.slice (some ⟨w1.heap.size,0,none⟩) l.length l.length],by rw [y6];omega,fun b hb=>by rw [ahz _ _ _ (by omega)];exact a2 b hb,?_⟩
  simp only [aq]
  refine ⟨some ⟨w1.heap.size,0,none⟩,l.length,rfl,⟨h'.1,Nat.le_refl _⟩,(fun h=>nomatch h),fun a ha hp=>?_⟩
  cases ha
  refine ⟨rfl,by simp only [lt,y6];omega,fun i x hx=>?_⟩
  have hi:=(List.getElem?_eq_some_iff.1 hx).1
  have hv:vss[i]? = some (vss[i]'(by omega)):=List.getElem?_eq_getElem (by omega)
  refine ⟨_,azo _ _ _ (vss[i]'(by omega)) (fun j u hu=>?_),aq.keep (afz (by rw [y6];omega) (fun b hb=>ahz _ _ b hb)) _ _ _ (a4 i x _ hx hv)⟩
  rw [Nat.zero_add]
  exact bc5 vss hlen i _ hv j u hu
 | .fn _ _,hr,_,_,_=>by simp [reT]at hr
 | .ifc _ _,hr,_,_,_=>by simp [reT]at hr
 | .mp _ _,hr,_,_,_=>by simp [reT]at hr
 | .op _,hr,_,_,_=>by simp [reT]at hr
 | .ns _,hr,_,_,_=>by simp [reT]at hr
 | .any,hr,_,_,_=>by simp [reT]at hr
theorem aat:(t:T)->(x:t.den)->ae (t.oks x)->t.ok x
 | .int _,x,h=>h.1
 | .bool,_,_=>trivial
 | .str,x,h=>h.1
 | .u,_,_=>trivial
 | .any,_,_=>trivial
 | .p a b,x,h=>by
  simp only [T.oks,lh]at h
  exact ⟨aat a x.1 h.1,aat b x.2 h.2⟩
 | .sl _,x,h=>h.1
 | .pt t,x,h=>aat t x h
 | .fn _ t,x,h=>aat t x h
 | .ifc _ t,x,h=>aat t x h
 | .mp _ _,x,h=>h.1
 | .op _,x,h=>h.1
 | .ns _,x,h=>h.1
def reL:List Bool->List T->Bool
 | [],[]=>true
 | g::gs,t::ts=>bt [reT t,orb g (Nat.beq t.size 1),reL gs ts]
 | _,_=>false
theorem azn {A A':Nat->Prop} {w w':World} (h:jc A A' w w'):(gs:List Bool)->(ts:List T)->(x:bi ts)->(us:List Value)->oy A w gs ts x us->oy A' w' gs ts x us
 | [],[],_,us,r=>by simpa only [oy]using r
 | [],_::_,_,_,r=>by simp [oy]at r
 | _::_,[],_,_,r=>by simp [oy]at r
 | g::gs,t::ts,x,us,r=>by
  simp only [oy]at r ⊢
  obtain ⟨u,us',vs,h1,h2,h3,h4,h5⟩:=r
  exact ⟨u,us',vs,h1,h2,h3,aq.keep h _ _ _ h4,azn h gs ts x.2 us' h5⟩
theorem asf:(gs:List Bool)->(ts:List T)->reL gs ts=true->(x:bi ts)->ae (okL ts x)->∀ w:World,∃ w' us,w.heap.size<=w'.heap.size/\(∀ b,b < w.heap.size->w'.heap[b]? = w.heap[b]?)/\oy (lt w') w' gs ts x us
 | [],[],_,_,_,w=>⟨w,[],Nat.le_refl _,fun _ _=>rfl,by simp only [oy]⟩
 | [],_::_,h,_,_,_=>by simp [reL]at h
 | _::_,[],h,_,_,_=>by simp [reL]at h
 | g::gs,t::ts,h,x,hx,w=>by
  simp only [reL,br,b8,Bool.and_true,Bool.and_eq_true]at h
  obtain ⟨h1,h2,h3⟩:=h
  simp only [okL,lh]at hx
  obtain ⟨w1,vs,a1,a2,a3⟩:=rep t h1 x.1 (aat _ _ hx.1) w
  obtain ⟨w2,us,b1,b2,b3⟩:=asf gs ts h3 x.2 hx.2 w1
  have k:=afz b1 b2
  have hk:=aq.keep k _ _ _ a3
  cases g with
  | true=>
   refine ⟨w2,.agg vs.toArray::us,Nat.le_trans a1 b1,fun c hc=>(b2 c (Nat.lt_of_lt_of_le hc a1)).trans (a2 c hc),?_⟩
   simp only [oy]
   exact ⟨_,us,vs,rfl,fun _=>rfl,(fun h=>nomatch h),hk,b3⟩
  | false=>
   simp only [nx,Bool.false_or]at h2
   have hl:=(aq.len _ _ _ a3).trans (Nat.eq_of_beq_eq_true h2)
   match vs,hl with
   | [u],_=>
    refine ⟨w2,u::us,Nat.le_trans a1 b1,fun c hc=>(b2 c (Nat.lt_of_lt_of_le hc a1)).trans (a2 c hc),?_⟩
    simp only [oy]
    exact ⟨u,us,[u],rfl,(fun h=>nomatch h),fun _=>rfl,hk,b3⟩
def okR:(rs:List (Bool×O))->js rs->List Prop
 | [],_=>[]
 | q::rs,x=>ap (q.2.strip.oks x.1) (okR rs x.2)
theorem bf5 {Im:Nat->Prop} {w:World} (o:O) (x:o.strip.den) (S:Nat->Prop) (vs:List Value) (h:Rel Im w o x S vs):ae (o.strip.oks x):=
 qe _ _ (aq.ok _ _ _ (Rel.frz (Im':=fun _=>True) (fun _ _=>trivial) o x S vs (fun _ _=>trivial) h))
theorem ate {Im:Nat->Prop} {w:World}:(rs:List (Bool×O))->(x:js rs)->(S:Nat->Prop)->(us:List Value)->kg Im w rs x S us->ae (okR rs x)
 | [],_,_,_,_=>trivial
 | q::rs,x,S,us,h=>by
  simp only [kg]at h
  obtain ⟨u,us',vs,S1,S2,_,_,_,_,_,_,h7,h8⟩:=h
  simp only [okR,lh]
  exact ⟨bf5 _ _ _ _ h7,ate rs _ _ _ h8⟩
def dfR:(rs:List (Bool×O))->js rs
 | []=>()
 | q::rs=>(q.2.strip.dflt,dfR rs)
theorem boy (B:Tab) (rs:List ResultVar) (rt:List (Bool×O)):(p:EX)->Tri (fun K:js rt->Prop=>ask B rs rt K p.1 p.2.1 p.2.2)
 | (.nm,env,M)=>by
  simp only [ask,aw6]
  split
  ·exact Tri.sel _
  ·exact Tri.no
 | (.rt,env,M)=>by
  simp only [ask,aw6]
  split
  ·exact Tri.sel _
  ·exact Tri.no
 | (.ex _,env,M)=>Tri.no
 | (.go _,env,M)=>Tri.no
def bg4:List (Nat×Nat)->Bool
 | []=>true
 | (_,c)::r=>nob (neg (Nat.beq c 999998)) (bg4 r)
theorem ot:{l:List (Nat×Nat)}->bg4 l=true->∀ i,Nat.beq (aw l i) 999998=false
 | [],_,i=>rfl
 | (k,c)::r,h,i=>by
  simp only [bg4,bc,Bool.and_eq_true]at h
  unfold aw
  cases Nat.beq k i with
  | true=>
   have h1:=h.1
   cases hb:Nat.beq c 999998 with
   | true=>rw [hb]at h1;cases h1
   | false=>exact hb
  | false=>exact ot h.2 i
theorem be4 (B:Tab) (Φ:FuncId->Option Ct) (cut:Nat->Nat) (hno:∀ i,Nat.beq (cut i) 999998=false) (fn:Func) (c:Code) (A:Ann) (ct:Ct) (x:bi ct.args):Tri (evF B Φ cut fn c A ct x):=
 (ml (B:=B) (Φ:=Φ) cut hno c A (aid 0 (xi B (toL fn.params) ct.args x)) []).bind (F:=fun K p=>ask B (toL fn.results) ct.rt K p.1 p.2.1 p.2.2) (boy B (toL fn.results) ct.rt)
theorem bli (B:Tab) (rs:List ResultVar) (W:Wt):(p:EX)->Tri (fun K:W.o.strip.den×js W.rt->Prop=>bdf B rs W (fun z r=>K (z,r)) p.1 p.2.1 p.2.2)
 | (.nm,env,M)=>by
  simp only [bdf,aqm]
  split
  ·split
   ·split
    ·split
     ·exact Tri.sel _
     ·exact Tri.no
    ·exact Tri.no
   ·exact Tri.no
  ·exact Tri.no
 | (.rt,env,M)=>by
  simp only [bdf,aqm]
  split
  ·split
   ·split
    ·split
     ·exact Tri.sel _
     ·exact Tri.no
    ·exact Tri.no
   ·exact Tri.no
  ·exact Tri.no
 | (.ex _,env,M)=>Tri.no
 | (.go _,env,M)=>Tri.no
theorem ba9 (B:Tab) (Φ:FuncId->Option Ct) (cut:Nat->Nat) (hno:∀ i,Nat.beq (cut i) 999998=false) (fn:Func) (c:Code) (A:Ann) (W:Wt) (x:W.o.strip.den) (y:bi W.as):Tri (fun K:W.o.strip.den×js W.rt->Prop=>pc B Φ cut fn c A W x y (fun z r=>K (z,r))):=
 (ml (B:=B) (Φ:=Φ) cut hno c A _ _).bind (F:=fun K p=>bdf B (toL fn.results) W (fun z r=>K (z,r)) p.1 p.2.1 p.2.2) (bli B (toL fn.results) W)
section
variable {P:Program} {B:Tab} {Φ:FuncId->Option Ct}
theorem boc (hΦ : m7 P Φ) (hB : TabOk P B) (hmix : P.follows .mixedOrders = true) {f : FuncId} {fn : Func} {c : Code} (hf : P.funcs[f]? = some fn) (hb : fn.body = some c) (hn : (fn.name == "runtime.NumGoroutine") = false) (ct : Ct) (A : Ann) (cut : Nat -> Nat) (hno : ∀ i, Nat.beq (cut i) 999998 = false)
  (hga:ct.ga=agL B fn) (hfl:orb ct.sh (ahu ct.rt)=true) (hck:okC fn.ntmps cut c=true) (hlen:ct.ga.length<=fn.ntmps) (hre:reL ct.ga ct.args=true) (Q:bi ct.args->js ct.rt->Prop)
  (h:∀ x,ae (okL ct.args x)->ae (ct.pre x)->evF B Φ cut fn c A ct x (Q x)) (x:bi ct.args) :
  ∃ r,ae (okL ct.args x)->ae (ct.pre x)->evF B Φ cut fn c A ct x (fun r'=>r'=r)/\ae (okR ct.rt r)/\Q x r:=by
 by_cases h1:ae (okL ct.args x)
 case neg=>exact ⟨ct.res x,fun h=>absurd h h1⟩
 by_cases h2:ae (ct.pre x)
 case neg=>exact ⟨ct.res x,fun _ h=>absurd h h2⟩
 have go:∀ Q:js ct.rt->Prop,evF B Φ cut fn c A ct x Q->∃ r,Q r/\ae (okR ct.rt r):=fun Q hq=>by
  obtain ⟨w,us,_,_,k3⟩:=asf ct.ga ct.args hre x h1 default
  obtain ⟨e,w',fr,⟨r,rs,S,q1,_,_,_,q2⟩,_⟩:=bng hB hf hb hn { ct with pre:=fun y=>[y=x] } (fun y r=>y=x->Q r) hga hfl hlen
   (fun y _ hy F p a w e1 e2 hst=>act hΦ hB hmix cut c F A _ _ _ (by rw [e1];exact hck) (by rw [e2];exact t6 c) (by
    have hyx:y=x:=hy.1
    rw [hyx]
    exact (be4 B Φ cut hno fn c A ct x).mono (fun r h _=>h) hq) p a w hst) (lt w) w us x (fun b hb=>hb) k3 ⟨rfl,trivial⟩ []
  exact ⟨r,q1 rfl,ate _ _ _ _ q2⟩
 rcases be4 B Φ cut hno fn c A ct x with h3 | h3 | ⟨r,h3⟩
 ·exact (h3 _ (h x h1 h2)).elim
 ·obtain ⟨r,hr,_⟩:=go (fun _=>False) (h3 _)
  exact hr.elim
 ·refine ⟨r,fun _ _=>⟨(h3 _).2 rfl,?_,(h3 _).1 (h x h1 h2)⟩⟩
  obtain ⟨r',e,ho⟩:=go (fun r'=>r'=r) ((h3 _).2 rfl)
  subst e;exact ho
theorem bnr (hΦ : m7 P Φ) (hB : TabOk P B) (hmix : P.follows .mixedOrders = true) {f : FuncId} {fn : Func} {c : Code} (hf : P.funcs[f]? = some fn) (hb : fn.body = some c) (hn : (fn.name == "runtime.NumGoroutine") = false) (W : Wt) (A : Ann) (cut : Nat -> Nat) (hno : ∀ i, Nat.beq (cut i) 999998 = false)
  (hro:ajt W.o=true) (hga:false::W.ag=agL B fn) (hck:okC fn.ntmps cut c=true) (hlen:W.ag.length+1<=fn.ntmps) (hnw:noW [0] c=true) (hre:reL W.ag W.as=true) (t:T) (hot:W.o=.pt (.fz t)) (hrt:reT t=true)
  (Q:W.o.strip.den->bi W.as->W.o.strip.den->js W.rt->Prop)
  (h:∀ x y,ae (W.o.strip.oks x)->ae (okL W.as y)->ae (W.pre x y)->pc B Φ cut fn c A W x y (Q x y)) (x:W.o.strip.den) (y:bi W.as) :
  ∃ q:W.o.strip.den×js W.rt,ae (W.o.strip.oks x)->ae (okL W.as y)->ae (W.pre x y)->pc B Φ cut fn c A W x y (fun z r=>z=q.1/\r=q.2)/\ae (W.o.strip.oks q.1)/\ae (okR W.rt q.2)/\Q x y q.1 q.2:=by
 by_cases h1:ae (W.o.strip.oks x)
 case neg=>exact ⟨(W.new x y,W.res x y),fun h=>absurd h h1⟩
 by_cases h2:ae (okL W.as y)
 case neg=>exact ⟨(W.new x y,W.res x y),fun _ h=>absurd h h2⟩
 by_cases h3:ae (W.pre x y)
 case neg=>exact ⟨(W.new x y,W.res x y),fun _ _ h=>absurd h h3⟩
 have go:∀ Q:W.o.strip.den->js W.rt->Prop,pc B Φ cut fn c A W x y Q->∃ z r,Q z r/\ae (W.o.strip.oks z)/\ae (okR W.rt r):=fun Q hq=>by
  obtain ⟨w1,us,_,_,k3⟩:=asf W.ag W.as hre y h2 default
  have hroot:∀ (o:O) (x:o.strip.den),o=.pt (.fz t)->ae (o.strip.oks x)->∃ w2 u,w1.heap.size<=w2.heap.size/\(∀ b,b < w1.heap.size->w2.heap[b]? = w1.heap[b]?)/\∃ S A:Nat->Prop,(∀ b,b < w1.heap.size->A b)/\(∀ b,A b->b < w2.heap.size)/\(∀ b,S b->b < w2.heap.size/\¬ A b)/\Rel A w2 o x S [u]:=by
   rintro o x rfl h1
   obtain ⟨w2,vs,a1,a2,a3⟩:=rep t hrt x (aat _ _ h1) w1
   refine ⟨World.put w2 vs,.pointer (some ⟨w2.heap.size,0,none⟩),by rw [y6];omega,fun b hb=>by rw [ahz _ _ _ (by omega)];exact a2 b hb,fun b=>b=w2.heap.size,lt w2,fun b hb=>by simp only [lt];omega,fun b hb=>by rw [y6];simp only [lt]at hb;omega,fun b hb=>by subst hb;rw [y6];simp only [lt];omega,?_⟩
   simp only [Rel]
   exact ⟨w2.heap.size,vs,0,fun _=>False,rfl,rfl,bf9 _ _,fun c h=>h.elim,aq.keep (fun b hb=>⟨hb,ahz _ _ b hb⟩) _ _ _ a3⟩
  obtain ⟨w2,u,b1,b2,S,A',c1,c2,c3,c4⟩:=hroot W.o x hot h1
  obtain ⟨e,w',fr,⟨z,r,rs,R,S',q1,_,_,_,_,q2,q3⟩,_⟩:=wt_q hΦ hB hmix hf hb hn W (fun x' y'=>x'=x/\y'=y) (fun x' y' z r=>x'=x->y'=y->Q z r) A cut hro hga hck hlen hnw
   (fun x' y' _ _ hy=>by
    have e1:x'=x:=hy.1
    have e2:y'=y:=hy.2
    rw [e1,e2]
    exact (ba9 B Φ cut hno fn c A W x y).mono (K:=fun p=>Q p.1 p.2) (K':=fun p=>x=x->y=y->Q p.1 p.2) (fun r h _ _=>h) hq) A' w2 u x us y S c2 c3 c4 (azn (fun b hb=>⟨c1 b hb,b2 b hb⟩) _ _ _ _ k3) ⟨rfl,rfl⟩ []
  exact ⟨z,r,q1 rfl rfl,bf5 _ _ _ _ q2,ate _ _ _ _ q3⟩
 rcases ba9 B Φ cut hno fn c A W x y with h4 | h4 | ⟨q,h4⟩
 ·exact (h4 (fun p=>Q x y p.1 p.2) (h x y h1 h2 h3)).elim
 ·obtain ⟨z,r,hr,_⟩:=go (fun _ _=>False) (h4 (fun _=>False))
  exact hr.elim
 ·have e1:=(h4 (fun p=>p.1=q.1/\p.2=q.2)).2 ⟨rfl,rfl⟩
  refine ⟨q,fun _ _ _=>⟨e1,?_⟩⟩
  obtain ⟨z,r,⟨rfl,rfl⟩,o1,o2⟩:=go (fun z r=>z=q.1/\r=q.2) e1
  exact ⟨o1,o2,(h4 (fun p=>Q x y p.1 p.2)).1 (h x y h1 h2 h3)⟩
theorem abv (hΦ : m7 P Φ) (hB : TabOk P B) (hmix : P.follows .mixedOrders = true) {f : FuncId} {fn : Func} {c : Code} (hf : P.funcs[f]? = some fn) (hb : fn.body = some c) (hn : (fn.name == "runtime.NumGoroutine") = false) (ct : Ct) (A : Ann) (cut : Nat -> Nat) (hno : ∀ i, Nat.beq (cut i) 999998 = false)
  (hga:ct.ga=agL B fn) (hfl:orb ct.sh (ahu ct.rt)=true) (hck:okC fn.ntmps cut c=true) (hlen:ct.ga.length<=fn.ntmps) (hre:reL ct.ga ct.args=true)
  (W:bi ct.args->(js ct.rt->Prop)->Prop) (hw:∀ x K,evF B Φ cut fn c A ct x K=W x K) (Q:bi ct.args->js ct.rt->Prop)
  (hm:∀ x,ae (okL ct.args x)->ae (ct.pre x)->W x (Q x)) (x:bi ct.args) :
  ∃ r,ae (okL ct.args x)->ae (ct.pre x)->W x (fun r'=>r'=r)/\ae (okR ct.rt r)/\Q x r:=by
 obtain ⟨r,h⟩:=boc hΦ hB hmix hf hb hn ct A cut hno hga hfl hck hlen hre Q (fun x h1 h2=>(hw x _).mpr (hm x h1 h2)) x
 exact ⟨r,fun h1 h2=>⟨(hw x _).mp (h h1 h2).1,(h h1 h2).2⟩⟩
theorem xk (hΦ : m7 P Φ) (hB : TabOk P B) (hmix : P.follows .mixedOrders = true) {f : FuncId} {fn : Func} {c : Code} (hf : P.funcs[f]? = some fn) (hb : fn.body = some c) (hn : (fn.name == "runtime.NumGoroutine") = false) (W : Wt) (A : Ann) (cut : Nat -> Nat) (hno : ∀ i, Nat.beq (cut i) 999998 = false)
  (hro:ajt W.o=true) (hga:false::W.ag=agL B fn) (hck:okC fn.ntmps cut c=true) (hlen:W.ag.length+1<=fn.ntmps) (hnw:noW [0] c=true) (hre:reL W.ag W.as=true) (t:T) (hot:W.o=.pt (.fz t)) (hrt:reT t=true)
  (V:W.o.strip.den->bi W.as->(W.o.strip.den->js W.rt->Prop)->Prop) (hw:∀ x y K,pc B Φ cut fn c A W x y K=V x y K)
  (Q:W.o.strip.den->bi W.as->W.o.strip.den->js W.rt->Prop)
  (hm:∀ x y,ae (W.o.strip.oks x)->ae (okL W.as y)->ae (W.pre x y)->V x y (Q x y)) (x:W.o.strip.den) (y:bi W.as) :
  ∃ q:W.o.strip.den×js W.rt,ae (W.o.strip.oks x)->ae (okL W.as y)->ae (W.pre x y)->V x y (fun z r=>z=q.1/\r=q.2)/\ae (W.o.strip.oks q.1)/\ae (okR W.rt q.2)/\Q x y q.1 q.2:=by
 obtain ⟨q,h⟩:=bnr hΦ hB hmix hf hb hn W A cut hno hro hga hck hlen hnw hre t hot hrt Q (fun x y h1 h2 h3=>(hw x y _).mpr (hm x y h1 h2 h3)) x y
 exact ⟨q,fun h1 h2 h3=>⟨(hw x y _).mp (h h1 h2 h3).1,(h h1 h2 h3).2⟩⟩
end
end Go.Bm
/- The gi machine:a function whose code jumps back to labels. -/
namespace Go.Bm
open Go.RowKit
section
variable {F:Fr} {p:Ow} {env:Env} {M:Mem} {a:Act} {w:World} {P:Program} {B:Tab} {Φ:FuncId->Option Ct}
end
end Go.Bm
/- Numbers written into data one after the other,and read back. No condition. -/
namespace Go.Bm
end Go.Bm
/- The data of the types of the program. No condition. -/
namespace Go.Bm
abbrev bj:T:=(.p (.int .i64) (.p (.sl (.int .i64)) (.p (.sl (.int .i64)) (.p (.sl (.int .i64)) (.sl (.sl (.int .i64)))))))
abbrev ac:Type:=Int×((List Int)×((List Int)×((List Int)×(List (List Int)))))
abbrev ku:O:=(.p (.fz (.int .i64)) (.p (.sl (.fz (.int .i64))) (.p (.sl (.fz (.int .i64))) (.p (.sl (.fz (.int .i64))) (.sl (.sl (.fz (.int .i64))))))))
abbrev ahl:T:=(.p (.int .i64) (.p (.int .i64) (.sl (.int .i64))))
abbrev aqv:Type:=Int×(Int×(List Int))
abbrev bnp:T:=(.p (.int .i64) (.int .i64))
abbrev bgr:Type:=Int×Int
abbrev sv:T:=(.p bnp (.sl (.int .i64)))
abbrev eq:Type:=bgr×(List Int)
abbrev bd6:Type:=ac×((List Int)×(List (Int×(Int×Int))))
abbrev bp:T:=(.p (.sl (.int .u8)) (.p (.int .i64) (.int .u64)))
abbrev ah:Type:=(List Int)×(Int×Int)
end Go.Bm
/- Small facts about lists,for the walks. No condition. -/
namespace Go.Bm
def inR (n lo hi:Int):Bool:=decide (lo<=n) && decide (n<=hi)
def bn (l:List Int) (n:Int):Bool:=l.all fun y=>inR y 0 (n - 1)
theorem io {l:List Int} {n:Int}:bn l n=true<->∀ i:Int,0<=i->i < l.length->0<=l.getD i.toNat 0/\l.getD i.toNat 0 < n:=by
 simp only [bn,List.all_eq_true,inR,Bool.and_eq_true,decide_eq_true_eq]
 constructor
 ·intro h i h0 h1
  have:=h _ (gf l 0 h0 h1)
  omega
 ·intro h x hx
  obtain ⟨k,hk,rfl⟩:=List.getElem_of_mem hx
  have:=h k (by omega) (by omega)
  rw [Int.toNat_natCast,List.getD_eq_getElem?_getD,List.getElem?_eq_getElem hk]at this
  simp only [Option.getD_some]at this
  omega
def apc:Nat->(Int->Bool)->Bool
 | 0,_=>true
 | n+1,p=>apc n p && p n
theorem bdm {p:Int->Bool}:∀ {n:Nat},apc n p=true<->∀ i:Int,0<=i->i < n->p i=true
 | 0=>by simp only [apc,true_iff];intro i h0 h1;omega
 | n+1=>by
  simp only [apc,Bool.and_eq_true,bdm (n:=n)]
  constructor
  ·rintro ⟨h1,h2⟩ i h0 hi
   by_cases e:i=n
   ·rw [e];exact h2
   ·exact h1 i h0 (by omega)
  ·intro h
   exact ⟨fun i h0 h1=>h i h0 (by omega),h n (by omega) (by omega)⟩
def jv {α:Type} (p:Int->Option α):Nat->Int->Option α
 | 0,_=>none
 | k+1,i=>match p i with | some r=>some r | none=>jv p k (i+1)
theorem aft {α:Type} {p:Int->Option α} {n i:Int} {r:α} (h:i < n) (hp:p i=some r):jv p (n - i).toNat i=some r:=by
 rw [show (n - i).toNat=(n - (i+1)).toNat+1 from by omega,jv,hp]
theorem agk {α:Type} {p:Int->Option α} {n i:Int} (h:i < n) (hp:p i=none):jv p (n - i).toNat i=jv p (n - (i+1)).toNat (i+1):=by
 rw [show (n - i).toNat=(n - (i+1)).toNat+1 from by omega,jv,hp]
theorem agf {α:Type} {p:Int->Option α} {n:Int}:jv p (n - n).toNat n=none:=by
 rw [show (n - n).toNat=0 from by omega,jv]
theorem afw {α:Type} {p:Int->Option α} {n:Nat}:jv p n 0=jv p ((n:Int) - 0).toNat 0:=by rw [show ((n:Int) - 0).toNat=n from by omega]
def orR {α:Type}:Option α->α->α
 | some x,_=>x
 | none,y=>y
def qh:Nat->(Int->Bool)->List Int
 | 0,_=>[]
 | n+1,p=>if p n=true then qh n p++[(n:Int)]else qh n p
theorem bqp {p:Int->Bool} {i:Int} (h0:0<=i) (h:p i=true):qh (i+1).toNat p=qh i.toNat p++[i]:=by
 rw [show (i+1).toNat=i.toNat+1 from by omega,qh,show ((i.toNat:Nat):Int)=i from by omega,if_pos h]
theorem bq3 {p:Int->Bool} {i:Int} (h0:0<=i) (h:p i=false):qh (i+1).toNat p=qh i.toNat p:=by
 rw [show (i+1).toNat=i.toNat+1 from by omega,qh,show ((i.toNat:Nat):Int)=i from by omega,if_neg (by rw [h];simp)]
theorem be3 {p:Int->Bool}:∀ n:Nat,(qh n p).length<=n
 | 0=>Nat.le_refl _
 | n+1=>by
  have:=be3 (p:=p) n
  unfold qh
  split
  ·rw [List.length_append];simp;omega
  ·omega
theorem aml {p:Int->Bool} {x:Int}:∀ {n:Nat},x ∈ qh n p<->0<=x/\x < n/\p x=true
 | 0=>by simp only [qh,List.not_mem_nil,false_iff];omega
 | n+1=>by
  unfold qh
  split
  ·rename_i h
   rw [List.mem_append,aml,List.mem_singleton]
   constructor
   ·rintro (⟨a,b,c⟩ | rfl)
    ·exact ⟨a,by omega,c⟩
    ·exact ⟨by omega,by omega,h⟩
   ·rintro ⟨a,b,c⟩
    by_cases e:x=n
    ·exact .inr e
    ·exact .inl ⟨a,by omega,c⟩
  ·rename_i h
   rw [aml]
   constructor
   ·rintro ⟨a,b,c⟩;exact ⟨a,by omega,c⟩
   ·rintro ⟨a,b,c⟩
    by_cases e:x=n
    ·subst e;exact absurd c h
    ·exact ⟨a,by omega,c⟩
theorem apz {p q:Int->Bool}:∀ {n:Nat},(∀ i:Int,0<=i->i < n->p i=q i)->qh n p=qh n q
 | 0,_=>rfl
 | n+1,h=>by
  unfold qh
  rw [h n (by omega) (by omega),apz fun i h0 h1=>h i h0 (by omega)]
theorem atn {α:Type} (l:List α) (k y:Nat) (x d:α) (hk:k < l.length):(l.set k x).getD y d=if k=y then x else l.getD y d:=by
 rw [List.getD_eq_getElem?_getD,List.getD_eq_getElem?_getD,List.getElem?_set]
 split
 ·rename_i h;subst h;simp [hk]
 ·rfl
def ce {α:Type}:Nat->(Int->α)->List α
 | 0,_=>[]
 | n+1,f=>ce n f++[f n]
theorem c6 {α:Type} {f:Int->α}:∀ n:Nat,(ce n f).length=n
 | 0=>rfl
 | n+1=>by simp [ce,c6 n]
theorem yc {α:Type} {f:Int->α} {i:Int} (h0:0<=i):ce (i+1).toNat f=ce i.toNat f++[f i]:=by
 rw [show (i+1).toNat=i.toNat+1 from by omega,ce,show ((i.toNat:Nat):Int)=i from by omega]
theorem uy {α:Type} {f:Int->α} {d:α} {i:Int}:∀ {n:Nat},0<=i->i < n->(ce n f).getD i.toNat d=f i
 | 0,h0,h1=>by omega
 | n+1,h0,h1=>by
  unfold ce
  by_cases e:i=n
  ·subst e
   rw [List.getD_eq_getElem?_getD,List.getElem?_append_right (by rw [c6];omega),c6]
   simp
  ·rw [List.getD_eq_getElem?_getD,List.getElem?_append_left (by rw [c6];omega),← List.getD_eq_getElem?_getD]
   exact uy h0 (by omega)
theorem n7 {α:Type} {f:Int->α} {x:α}:∀ {n:Nat},x ∈ ce n f<->∃ i:Int,0<=i/\i < n/\x=f i
 | 0=>by simp only [ce,List.not_mem_nil,false_iff];rintro ⟨i,h0,h1,_⟩;omega
 | n+1=>by
  unfold ce
  rw [List.mem_append,n7,List.mem_singleton]
  constructor
  ·rintro (⟨i,h0,h1,h⟩ | h)
   ·exact ⟨i,h0,by omega,h⟩
   ·exact ⟨n,by omega,by omega,h⟩
  ·rintro ⟨i,h0,h1,h⟩
   by_cases e:i=n
   ·subst e;exact .inr h
   ·exact .inl ⟨i,h0,by omega,h⟩
theorem ep {α:Type} {f g:Int->α}:∀ {n:Nat},(∀ i:Int,0<=i->i < n->f i=g i)->ce n f=ce n g
 | 0,_=>rfl
 | n+1,h=>by
  unfold ce
  rw [h n (by omega) (by omega),ep fun i h0 h1=>h i h0 (by omega)]
theorem al4 {α:Type} (x:α):∀ n:Nat,List.replicate n x=ce n fun _=>x
 | 0=>rfl
 | n+1=>by rw [List.replicate_succ',ce,al4 x n]
theorem zn {α:Type} {f:Int->α} {x:α} {k:Int}:∀ {n:Nat},0<=k->k < n->(ce n f).set k.toNat x=ce n fun y=>if y=k then x else f y
 | 0,h0,h1=>by omega
 | n+1,h0,h1=>by
  unfold ce
  by_cases e:k=n
  ·subst e
   rw [List.set_append,if_neg (by rw [c6];omega),c6]
   simp only [Int.toNat_natCast,Nat.sub_self,List.set_cons_zero,if_true]
   rw [ep (g:=fun y=>if y=(n:Int)then x else f y) fun i i0 i1=>by rw [if_neg (by omega)]]
  ·rw [List.set_append,if_pos (by rw [c6];omega),zn h0 (by omega)];dsimp only;rw [if_neg (Ne.symm e)]
theorem cw {n m b:Nat} (h:(n+m) * b<=140737488355328):fg n m b:=by unfold fg;rw [fy];exact h
def mb:Nat->(Int->Bool)->Bool
 | 0,_=>false
 | n+1,p=>mb n p || p n
theorem wo {p:Int->Bool}:∀ {n:Nat},mb n p=true<->∃ i:Int,0<=i/\i < n/\p i=true
 | 0=>by simp only [mb,Bool.false_eq_true,false_iff];rintro ⟨i,h0,h1,_⟩;omega
 | n+1=>by
  simp only [mb,Bool.or_eq_true,wo (n:=n)]
  constructor
  ·rintro (⟨i,h0,h1,h2⟩ | h)
   ·exact ⟨i,h0,by omega,h2⟩
   ·exact ⟨n,by omega,by omega,h⟩
  ·rintro ⟨i,h0,h1,h2⟩
   by_cases e:i=n
   ·subst e;exact .inr h2
   ·exact .inl ⟨i,h0,by omega,h2⟩
theorem apx {p:Int->Bool} {i:Int} (h0:0<=i):mb (i+1).toNat p=(mb i.toNat p || p i):=by
 rw [show (i+1).toNat=i.toNat+1 from by omega,mb,show ((i.toNat:Nat):Int)=i from by omega]
theorem uq {α:Type} (F:Int->α) {n i0:Int} {a0:α} {body:(Unit×(Int×Unit))×(α×Unit)->((Unit×(Int×Unit))×(α×Unit)->Prop)->Prop} (hn:i0<=n) (h0:a0=F i0)
  (hs:∀ i next,i0<=i->i < n->next (((),(i+1,())),(F (i+1),()))->body (((),(i,())),(F i,())) next) (he:∀ next,body (((),(n,())),(F n,())) next):bu body (((),(i0,())),(a0,())):=by
 refine ca (fun s=>s.2.1=F s.1.2.1/\i0<=s.1.2.1/\s.1.2.1<=n) (fun s=>(n - s.1.2.1).toNat) ?_ ⟨h0,Int.le_refl _,hn⟩
 rintro ⟨⟨_,i,_⟩,y,_⟩ next ⟨hy,h1,h2⟩ hnx
 dsimp only at hy h1 h2 hnx
 subst hy
 by_cases e:i=n
 ·subst e;exact he next
 ·exact hs i next h1 (by omega) (hnx _ ⟨rfl,by dsimp only;omega,by dsimp only;omega⟩ (by dsimp only;omega))
theorem bnv {α:Type} {l:List α} {i:Nat}:(ae9 l i).length=l.length:=by simp [ae9]
theorem bou {α:Type} {l:List α} {i:Nat} {y:α}:as2 ((ae9 l i).set i (some y))=true:=by
 simp only [as2,ae9,List.all_eq_true,List.set_set]
 intro x hx
 rcases List.mem_or_eq_of_mem_set hx with h | h
 ·obtain ⟨z,_,rfl⟩:=List.mem_map.1 h;rfl
 ·rw [h];rfl
theorem bo1 {α:Type} {z:α} {l:List α} {i:Nat} {y:α}:ae6 z ((ae9 l i).set i (some y))=l.set i y:=by
 simp only [ae6,ae9,List.set_set,List.map_set,Option.getD_some,List.map_map]
 congr 1
 conv=>rhs;rw [← List.map_id l]
 exact List.map_congr_left fun x _=>rfl
theorem bkh (n:Nat) (p:Int->Bool) {body:(Int×Unit)×Unit->((Int×Unit)×Unit->Prop)->Prop}
  (hs:∀ (i:Int) next,0<=i->i < n->(p i=true->mb n p=true)->(p i=false->next ((i+1,()),()))->body ((i,()),()) next)
  (he:∀ next,mb n p=false->body (((n:Int),()),()) next):bu body ((0,()),()):=by
 refine nh (n:=n) (fun i=>mb i.toNat p=false) (by omega) rfl ?_ ?_
 ·intro i next i0 i1 hP hn
  rw [apx i0,hP,Bool.false_or]at hn
  exact hs i next i0 i1 (fun h=>wo.2 ⟨i,i0,i1,h⟩) hn
 ·intro next hP
  exact he next hP
theorem blu {α:Type} (d:α):∀ l:List α,ce l.length (fun i=>l.getD i.toNat d)=l:=by
 intro l
 refine List.ext_getElem (c6 _) fun k h1 h2=>?_
 rw [c6]at h1
 have:=@uy α (fun i=>l.getD i.toNat d) d (k:Int) l.length (by omega) (by omega)
 rw [Int.toNat_natCast,List.getD_eq_getElem?_getD,List.getElem?_eq_getElem (by rw [c6];exact h1),List.getD_eq_getElem?_getD,List.getElem?_eq_getElem h1]at this
 exact this
end Go.Bm
