/- The typed machine that the walks of this claim go by: its data, its operations and the proof that each is sound. No condition. -/
import Derived.Test.YtimfdllgcnabjaaGreatBmFour
import Derived.Scope
import Derived.OpenShut
import Derived.ChangeSlices
import Derived.SizedLaws
import Derived.Below
import Derived.ProofKit
import Derived.ShutString
import Derived.ChangeOld
set_option linter.unusedVariables false
set_option linter.unusedSimpArgs false
set_option linter.unusedSectionVars false
/- The ff machine:calls that give this or that;drawn regions whose operations are put into another order. -/
namespace Go.Bm
open Go.RowKit
abbrev a1v:=@Bool.true_and
abbrev a4e:=@List.map_nil
abbrev a4f:=@calls_of_wp
abbrev a4g:=@Array.mapM_eq_mapM_toList
abbrev a4h:=@Sem.run_map
abbrev a43:=@List.all_append
abbrev a4i:=@List.all_cons
abbrev a44:=@List.getElem_mem
abbrev a02:=@Int.le_refl
abbrev a45:=@Nat.not_lt_zero
abbrev a46:=@List.nodup_nil
abbrev a3h:=@List.nodup_cons
section
variable {F:Fr} {p p' p'':Ow} {env env':Env} {M M' M'':Mem} {a a':Act} {w w' w'':World} {P:Program} {B:Tab} {Φ:FuncId->Option Ct}
theorem bub{Im Im':Nat->Prop}{w:World}(hI:∀b,Im b->Im' b):(rt:List (Bool×O))->(x:gq rt)->(S:Nat->Prop)->(us:List Value)->(∀b,S b->Im' b)->g9 Im w rt x S us->g9 Im' w (fzL rt) (fzX rt x) (fun _=>False) us
 |[],_,_,_,_,h=>h
 |q::r,x,S,us,hS,h=>by obtain⟨u,us',vs,S1,S2,h1,h2,h3,h4,h5,_,h7,h8⟩:=h;refine⟨u,us',vs,fun _=>False,fun _=>False,h1,h2,h3,fun _ h=>h.elim,fun _ h=>h.elim,fun _ h=>h.elim,?_,bub hI r x.2 S2 us' (fun b hb=>hS b (h5 b hb)) h8⟩;simp only[Rel];exact Rel.frz hI q.2 x.1 S1 vs (fun b hb=>hS b (h4 b hb)) h7
theorem cdy{f:FuncId}{ct:Ct}(h:bw P f ct)(hm:ct.mu=none):bw P f (fzCt ct):=by obtain⟨h1,h2⟩:=h;rw[hm]at h2;refine⟨h1,fun A w us x hE hA hr hp=>?_⟩;refine (h2 A w us x hE hA hr hp).mono fun e w' he=>?_;obtain⟨rs,S,q1,q2,q3,q4⟩:=he;refine⟨rs,fun _=>False,q1,q2,fun _ h=>h.elim,bub (fun b hb=>⟨hb.1,hb.2.1.elim (fun h=>.inl ⟨rfl,h.2⟩) .inr,fun h=>h⟩) _ _ S rs (fun b hb=>⟨(q3 b hb).2,.inr (q3 b hb).1,fun h=>h⟩) q4⟩
theorem bv6(hΦ:uf P Φ):uf P (azc Φ):=by
 intro f c hc;unfold azc at hc
 cases hf:Φ f with
 |none=>rw[hf]at hc;cases hc
 |some ct=>
  rw[hf]at hc;simp only at hc
  cases hm:ct.mu with
  |none=>rw[hm]at hc;simp only[a0e]at hc;rw[←hc];exact cdy (hΦ f ct hf) hm
  |some _=>rw[hm]at hc;simp only[a0e]at hc;rw[←hc];exact hΦ f ct hf
theorem cbg(hΦ:uw P F Φ)(hB:TabOk P B)(all:Array Oper)(Q:Exit->Act->World->Prop)(K:Env->Mem->Prop)(hQ:∀p env M a w,St F p env M a w->K env M->Q .normal a w) :
  ∀(ops:List Oper)(p:Ow)(env:Env)(M:Mem)(a:Act)(w:World),mr F.nt ops=true->(∀o∈ops,∀k,o.dst=some k->F.fv k=none)->St F p env M a w->twS B Φ (toL all) ops env M K->wpList P all Q ops a w:=
 fun _ _ _ _ _ _ _ _ _ h=>False.elim h
theorem buf(hΦ:uw P F Φ)(hB:TabOk P B)(all:Array Oper)(Q:Exit->Act->World->Prop)(K:Env->Mem->Prop)(hQ:∀p env M a w,St F p env M a w->K env M->Q .normal a w) :
  ∀(ops:List Oper)(p:Ow)(env:Env)(M:Mem)(a:Act)(w:World),mr F.nt ops=true->(∀o∈ops,∀k,o.dst=some k->F.fv k=none)->afe (toL all) ops env->St F p env M a w->twQ B Φ (toL all) ops env M K->wpList P all Q ops a w
 |[],p,env,M,a,w,_,_,_,h,hk=>hQ p env M a w h hk
 |o::rest,p,env,M,a,w,hc,hfv,hI,h,hk=>by
  simp only[twQ]at hk;have hc1:=w9 hc (a1t);have hdst:=bjj hc1 (hfv o (by simp));have ih:∀p' env' M' a' w',afe (toL all) rest env'->St F p' env' M' a' w'->twQ B Φ (toL all) rest env' M' K->wpList P all Q rest a' w':=fun p' env' M' a' w' h0 h1 h2=>buf hΦ hB all Q K hQ rest p' env' M' a' w' (af2 hc).2.2.2 (fun o' ho'=>hfv o' (by simp[ho'])) h0 h1 h2
  have step:tw B Φ (toL all) [o] env M (fun env M=>afe (toL all) rest env/\twQ B Φ (toL all) rest env M K)->wpList P all Q (o::rest) a w:=fun h1=>by
   have hst:=bdw hΦ hB all h h1 hc1 (hfv o (by simp)) Q;unfold wpList;split at hst
   ·rename_i hw;rw[a0a hw];exact hst.imp (a26 (fun a' w' ⟨p',env',M',h1,h2⟩=>ih p' env' M' a' w' h2.1 h1 h2.2)) id
   ·rename_i hw;rw[ds hw];obtain⟨p',env',M',h1,h2⟩:=hst;exact ih p' env' M' _ w h2.1 h1 h2.2
  cases hgd:o.guard with
  |none=>
   rw[hgd]at hk;refine step ?_;simp only[tw];rw[hgd];obtain⟨vc,he,hvc⟩:=aqv (B:=B) (Φ:=Φ) hI bkc o M;rw[he];generalize evG B Φ (toL all) [] o env M=q at hk hvc⊢;obtain⟨vc',v,e,M'⟩:=q;simp only at hk hvc⊢
   cases hv:uy v with
   |true=>rw[hv]at hk;exact hk.elim
   |false=>rw[hv]at hk;simp only[a0j,oq]at hk;rw[oq];exact⟨hvc hk.1,an0 hI hv ⟨e,fun t=>uu t e env⟩,hk.2⟩
  |some g=>
   obtain⟨j,want⟩:=g;rw[hgd]at hk;simp only at hk
   cases hd:vq (toL all) j with
   |none=>rw[hd]at hk;exact hk.elim
   |some dj=>
    rw[hd]at hk;simp only at hk;have hdj:(all[j]?).bind (·.dst)=some dj:=by rw[←ay9];exact hd
    have hw:Region.wanted o (yielded all a.tmps)=(yB (a.tmps.getD dj undef)==some want):=by simp only[Region.wanted,hgd,ar3 hdj]
    have hev:(evR B Φ o env M).av=(evG B Φ (toL all) (n6 (toL all) env 8 j want) o env M).av/\(evR B Φ o env M).ev=(evG B Φ (toL all) (n6 (toL all) env 8 j want) o env M).ev/\(evR B Φ o env M).M=(evG B Φ (toL all) (n6 (toL all) env 8 j want) o env M).M:=by
     unfold evR evG;split
     ·simp only[ag6,bb5,dh];cases cd [_,_,_]<;>simp[bad]
     ·exact⟨rfl,rfl,rfl⟩
    have hgood:gc (gt env dj) want->∃vc,evR B Φ o env M=⟨vc,(evG B Φ (toL all) (n6 (toL all) env 8 j want) o env M).av,(evG B Φ (toL all) (n6 (toL all) env 8 j want) o env M).ev,(evG B Φ (toL all) (n6 (toL all) env 8 j want) o env M).M⟩/\(ab (evG B Φ (toL all) (n6 (toL all) env 8 j want) o env M).vc->ab vc):=fun hG=>aqv (B:=B) (Φ:=Φ) hI (ar6 hI 8 j want dj hd hG) o M;generalize evG B Φ (toL all) (n6 (toL all) env 8 j want) o env M=q at hk hev hgood;obtain⟨vc',v,e,M'⟩:=q;simp only[cd]at hk hev hgood;cases h1:lx (gt env dj)<;>rw[h1]at hk<;>try exact hk.elim
    cases h4:wIn dj (o::rest)<;>rw[h4]at hk<;>try exact hk.elim
    simp only[neg,a0d,a0j]at hk;have hy:=bht _ _ want h1 (h.slots dj)
    cases hqf:nob (pd o) (fresh M e)with
    |true=>rw[hqf]at hk;simp only[a0d]at hk;simp only[be,a0b]at hqf;refine step ?_;simp only[tw];rw[hgd];simp only[hd];generalize hq2:evR B Φ o env M=q2 at hev hgood;obtain⟨vc2,v2,e2,M2⟩:=q2;simp only at hev;obtain⟨rfl,rfl,rfl⟩:=hev;simp only[cd,h1,hqf.1,hqf.2,a0d,aly]at hk⊢;refine⟨fun hG=>?_,ajr hI hd h1 h4,hk.2⟩;obtain⟨vc3,e3,h3⟩:=hgood hG;cases e3;exact h3 (hk.1 hG)
    |false=>
     rw[hqf]at hk;simp only[a0j]at hk
     cases hv:uy v with
     |true=>rw[hv]at hk;exact hk.elim
     |false=>
     rw[hv]at hk;simp only[a0j,ifP,oq]at hk;unfold wpList;rw[hw];by_cases hG:gc (gt env dj) want
     ·rw[a0a (hy.2 hG)];obtain⟨vc3,e3,h3⟩:=hgood hG;obtain⟨k1,k2⟩:=hk.1 hG;refine .inl (a26 (fun a' w' ⟨u,g1,p',g2,g3,g4,_⟩=>?_) (atq hΦ hB h hc1 (by rw[e3];exact h3 k1) Q));rw[e3]at g2 g4;rw[g1];exact ih p' _ _ _ w' (an0 hI hv ⟨e,fun t=>uu t e env⟩) ((h.tr g2 g3).wrO _ u g4 hdst) k2
     ·rw[ds (fun hh=>hG (hy.1 hh))];exact ih p _ _ _ w (ajr hI hd h1 h4) (h.wrO _ undef (by simp only[ao];exact⟨fun hn=>absurd hn hG,fun _=>trivial⟩) hdst) (hk.2 hG)
theorem by2{α β:Type}(f:α->β)(l:List α):brb f l=l.map f:=by
 induction l with
 |nil=>rfl
 |cons x l ih=>simp only[brb,ih,a2h]
theorem bgs{σ:List Nat}{o:Oper}{e:Edge}:e∈(aq3 σ o).after<->∃e'∈o.after,e=buq σ e':=by unfold aq3;simp only[by2,ew,List.mem_toArray,a2c,a19];exact⟨fun⟨a,h1,h2⟩=>⟨a,h1,h2.symm⟩,fun⟨a,h1,h2⟩=>⟨a,h1,h2.symm⟩⟩
theorem axr{σ:List Nat}{l:List Oper}{o':Oper}:∀{ks:List Nat},o'∈aeq σ l ks->∃o∈l,o'=aq3 σ o
 |[],h=>by cases h
 |k::r,h=>by
  simp only[aeq]at h;split at h
  ·rename_i o ho;rcases a0t.1 h with h|h
   ·rw[afp]at ho;exact⟨o,a3m ho,h⟩
   ·exact axr h
  ·exact axr h
theorem bkg{σ:List Nat}{l:List Oper}:∀{ks:List Nat},(∀k∈ks,k<l.length)->(aeq σ l ks).length=ks.length/\∀(j i:Nat)(o:Oper),ks[j]? = some i->l[i]? = some o->(aeq σ l ks)[j]? = some (aq3 σ o)
 |[],_=>⟨rfl,fun j i o h=>by simp at h⟩
 |k::r,h=>by
  obtain⟨h1,h2⟩:=bkg (σ:=σ) (l:=l) (ks:=r) fun x hx=>h x (by simp[hx]);have hk:=h k (by simp);obtain⟨o,ho⟩:∃o,l[k]? = some o:=⟨_,a0p hk⟩;have e:aeq σ l (k::r)=aq3 σ o::aeq σ l r:=by simp only[aeq,afp,ho]
  rw[e];refine⟨by simp[h1],fun j i o' hj hi=>?_⟩
  cases j with
  |zero=>simp at hj;subst hj;rw[ho]at hi;cases hi;rfl
  |succ j=>simp at hj⊢;exact h2 j i o' hj hi
theorem ar7{L:Array Bool}{j:Nat}(h:j<L.size):L.getD j true=L.getD j false:=by simp[h]
structure Perm (ops ops':Array Oper) (σ:List Nat) (n:Nat):Prop where
 s:ops.size=n
 s':ops'.size=n
 f:∀i,i<n->plc σ i<n/\σ[plc σ i]? = some i
 g:∀k,k<n->∃i,σ[k]? = some i/\i<n/\plc σ i=k
 op:∀(k i:Nat)(o:Oper),σ[k]? = some i->ops[i]? = some o->ops'[k]? = some (aq3 σ o)
 gd:∀(i:Nat)(o:Oper),ops[i]? = some o->o.guard=none
 bk:∀(i:Nat)(o:Oper),ops[i]? = some o->∀e∈o.after,Region.binds .any e=true->e.on<n
theorem Perm.ready{ops ops':Array Oper}{σ:List Nat}{n:Nat}(H:Perm ops ops' σ n){L L':Array Bool}(hL:L.size=n)(hL':L'.size=n)(hr:∀i,i<n->L'.getD (plc σ i) true=L.getD i true){i:Nat}(hi:i<n) :
  i∈Region.ready .any ops L<->plc σ i∈Region.ready .any ops' L':=by
 obtain⟨f1,f2⟩:=H.f i hi;obtain⟨o,ho⟩:∃o,ops[i]? = some o:=⟨_,a3g (by rw[H.s];exact hi)⟩;have ho':=H.op _ _ _ f2 ho;rw[a3w,a3w,hr i hi];constructor
 ·rintro⟨h1,o1,h2,h3⟩;rw[ho]at h2;cases h2;refine⟨h1,_,ho',fun e he hb=>?_⟩;obtain⟨e',k1,rfl⟩:=bgs.1 he;have hn:=H.bk i o ho e' k1 hb;have hp:=H.f _ hn;have k2:=h3 e' k1 hb;rw[←ar7 (by rw[hL];exact hn),←hr _ hn,ar7 (by rw[hL'];exact hp.1)]at k2;exact k2
 ·rintro⟨h1,o1,h2,h3⟩;rw[ho']at h2;cases h2;refine⟨h1,_,ho,fun e he hb=>?_⟩;have hn:=H.bk i o ho e he hb;have hp:=H.f _ hn;have k2:=h3 (buq σ e) (bgs.2 ⟨e,he,rfl⟩) hb;rw[←ar7 (by rw[hL];exact hn),←hr _ hn,ar7 (by rw[hL'];exact hp.1)];exact k2
theorem bo8{ops ops':Array Oper}{σ:List Nat}{n:Nat}{Q:Exit->Act->World->Prop}(H:Perm ops ops' σ n):∀(fuel:Nat)(L L':Array Bool)(a:Act)(w:World),L.size=n->L'.size=n->(∀i,i<n->L'.getD (plc σ i) true=L.getD i true)->
  wpAny P .any ops' Q fuel L' a w->wpAny P .any ops Q fuel L a w:=by
 have nil:∀(L L':Array Bool),L.size=n->L'.size=n->(∀i,i<n->L'.getD (plc σ i) true=L.getD i true)->(Region.ready .any ops L=[]<->Region.ready .any ops' L'=[]):=by
  intro L L' h1 h2 h3;have lt:∀{ops:Array Oper} {L:Array Bool} {i:Nat},i∈Region.ready .any ops L->i<ops.size:=fun h=>by obtain⟨_,o,ho,_⟩:=a3w.1 h;exact (a0x.1 ho).1
  constructor
  ·intro h
   cases hr:Region.ready .any ops' L' with
   |nil=>rfl
   |cons k r=>
    have hk:k∈Region.ready .any ops' L':=by rw[hr];simp
    have hkn:=lt hk;rw[H.s']at hkn;obtain⟨i,i1,i2,i3⟩:=H.g k hkn;rw[←i3]at hk;have:=(H.ready h1 h2 h3 i2).2 hk;rw[h]at this;cases this
  ·intro h
   cases hr:Region.ready .any ops L with
   |nil=>rfl
   |cons i r=>
    have hi:i∈Region.ready .any ops L:=by rw[hr];simp
    have hin:=lt hi;rw[H.s]at hin;have:=(H.ready h1 h2 h3 hin).1 hi;rw[h]at this;cases this
 intro fuel
 induction fuel with
 |zero=>intro L L' a w h1 h2 h3 h;exact⟨(nil L L' h1 h2 h3).2 h.1,h.2⟩
 |succ fuel ih=>
  intro L L' a w h1 h2 h3 h;refine⟨fun hn=>h.1 ((nil L L' h1 h2 h3).1 hn),fun i hi=>?_⟩;obtain⟨_,o,ho,_⟩:=a3w.1 hi;have hin:=(a0x.1 ho).1;rw[H.s]at hin;have hk:=h.2 _ ((H.ready h1 h2 h3 hin).1 hi);obtain⟨f1,f2⟩:=H.f i hin;have ho':=H.op _ _ _ f2 ho;have hg:=H.gd i o ho
  have e:∀K:Act->World->Prop,wpOp P ops' Q (plc σ i) K a w->wpOp P ops Q i K a w:=by
   intro K hh;unfold wpOp at hh⊢;rw[ho']at hh;rw[ho];have g1:Region.wanted o (yielded ops a.tmps)=true:=by simp[Region.wanted,hg]
   have g2:Region.wanted (aq3 σ o) (yielded ops' a.tmps)=true:=by simp[Region.wanted,aq3,hg]
   simp only[g2,a04]at hh;simp only[g1,a04];exact hh
  refine a3z (fun a' w' hh=>ih _ _ a' w' (by simpa using h1) (by simpa using h2) (fun j hj=>?_) hh) (e _ hk);by_cases hji:j=i
  ·subst hji;simp[h1,h2,hin,f1]
  ·have hne:plc σ i≠plc σ j:=fun hh=>by have:=(H.f j hj).2;rw[←hh,f2]at this;cases this;exact hji rfl
   rw[a2y true hne,a2y true (a0u hji)];exact h3 j hj
theorem bf5:∀{l:List Oper},bb7 l=true->∀o∈l,o.guard=none
 |[],_,_,h=>by cases h
 |o::r,h,o',ho'=>by
  simp only[bb7,be,a0b]at h;rcases a0t.1 ho' with e|e
  ·subst e;have:=h.1
   cases hg:o'.guard with
   |none=>rfl
   |some g=>rw[hg]at this;cases this
  ·exact bf5 h.2 o' e
theorem bd4{α:Type}:∀l:List α,len l=l.length
 |[]=>rfl
 |_::r=>by rw[len,bd4 r];rfl
theorem byk(b:Bool):nob b true=b:=by cases b<;>rfl
theorem bl4{l:List Oper}{m i:Nat}(h:i<m)(hf:vm l.length (ij [] l) m i=true):(bh4 l m).getD i false=true:=by unfold bh4;rw[a0l,a1r,a2p h];simp only[a1e,a1n,bd4];exact hf
theorem biq:∀e:List Ev,art [] e=true
 |[]=>rfl
 |x::e=>by
  have h:ai5 [] x=true:=by cases x<;>rfl
  simp only[art,h,biq e,be,a2n]
theorem axz:∀(ls:List (List Oper)) (fs:List Bool) (l:List Oper) (env:Env) (M:Mem),ags [] [] B Φ ls fs l env M=true
 |_,_,[],_,_=>rfl
 |ls,fs,o::r,env,M=>by have e:buy []=true:=rfl;simp only[ags,e,biq,lq,Bool.true_or,a4b,be,a1v];exact axz _ _ r _ _
theorem boy(hΦ:uw P F Φ)(hB:TabOk P B)(hmix:P.follows .mixedOrders=true){R R2:Bool}{Ds:List Bool}{ks as:List Nat}{id:Nat}{ops:Array Oper}{cut:Nat}(hco:mr F.nt (gv R (toL ops))=true)(hfv:∀o∈toL ops,∀k,o.dst=some k->F.fv k=none)(hr:bqq R R2 (toL ops) cut=true)(hR:R2=false->ks=[])(hD:∀i,i<cut->vm (gv R (toL ops)).length (ij [] (gv R (toL ops))) cut i=true->Ds.getD i false=true){K:Env->Mem->Prop}{Q:Exit->Act->World->Prop}
  (hQ:∀p env M a w,St F p env M a w->K env M->Q .normal a w) {p:Ow} {env:Env} {M:Mem} {a:Act} {w:World} (h:St F p env M a w) (hn:ab0 env=true)
  (hk:hx Ds ks as B Φ M (eq cut (gv R (toL ops))) env [] (fun env X=>bif nob (nogd env) (ags ks as B Φ (ac6 (gv R (toL ops)) cut) (adt (gv R (toL ops)) cut) (nz cut (gv R (toL ops))) env (ap X M))then twG B Φ (gv R (toL ops)) (nz cut (gv R (toL ops))) env (ap X M) K else False)):(Code.region id ops true).wp P Q a w:=by
 simp only[bqq,a0b]at hr;obtain⟨h1,h2,h3,h4⟩:=hr;simp only[bkq,a0b,a1y,a42,bd4]at h2;obtain⟨⟨p1,p2⟩,p3⟩:=h2;have p1:=a0v p1;have hσ:gv R (toL ops)=aeq (bae R (toL ops)) (toL ops) (bae R (toL ops)):=rfl;generalize bae R (toL ops)=σ at *
 have hg:∀k,k<(toL ops).length->∃i,σ[k]? = some i/\i<(toL ops).length/\plc σ i=k:=fun k hk=>by
  have:=p3 k hk
  cases hs:pq σ k with
  |none=>rw[hs]at this;cases this
  |some i=>rw[hs]at this;simp only[a0b,a2z]at this;rw[afp]at hs;exact⟨i,hs,this.1,a0v this.2⟩
 have hmem:∀k∈σ,k<(toL ops).length:=fun k hk=>by obtain⟨j,hj,rfl⟩:=a2d hk;obtain⟨i,i1,i2,_⟩:=hg j (by omega);rw[a0p hj]at i1;cases i1;exact i2
 obtain⟨g1,g2⟩:=bkg (σ:=σ) (l:=toL ops) hmem;have hsz:(toL ops).length=ops.size:=by rw[ew];simp
 have H:Perm ops ⟨gv R (toL ops)⟩ σ ops.size:={
  s:=rfl
  s':=by show (gv R (toL ops)).length=ops.size;rw[hσ,g1,p1,hsz]
  f:=fun i hi=>by
   have:=p2 i (by rw[hsz];exact hi);simp only[a2z]at this;refine⟨by rw[←hsz];exact this.1,?_⟩;have h5:=this.2;rw[afp]at h5
   cases hs:σ[plc σ i]? with
   |none=>rw[hs]at h5;cases h5
   |some k=>rw[hs]at h5;rw[a0v h5]
  g:=fun k hk=>by obtain⟨i,i1,i2,i3⟩:=hg k (by rw[hsz];exact hk);exact⟨i,i1,by rw[←hsz];exact i2,i3⟩
  op:=fun k i o hk ho=>by have:=g2 k i o hk (by rw[ew];simpa using ho);rw[←hσ]at this;simpa using this
  gd:=fun i o ho=>bf5 h3 o (by rw[ew,a19];exact a27 ho)
  bk:=fun i o ho e he hb=>by have:=alm (toL ops) 0 h1 i o (by rw[ew];simpa using ho) e he hb;have hi:=(a0x.1 ho).1;omega }
 refine a41 hmix (bo8 H _ _ (Array.replicate ops.size false) a _ (by simp) (by simp) (fun i hi=>?_) ?_)
 ·have:=(H.f i hi).1;simp[hi,this]
 ·have hz:(⟨gv R (toL ops)⟩:Array Oper).size=ops.size:=H.s';have:=bi2 (F:=F) (ops:=⟨gv R (toL ops)⟩) (cut:=cut) (K:=K) (Q:=Q) (P:=P) hΦ hB (by exact hco) (fun o ho k hk=>by obtain⟨o',q1,rfl⟩:=axr (by rw[←hσ];exact ho);exact hfv o' q1 k hk) h4 hR (fun _=>hD) hQ h hn hk;rw[hz]at this;exact this
end
end Go.Bm
/- A drawn region where an allocation may come before an operation that writes,or behind it:both ways are walked. -/
namespace Go.Bm
open Go.RowKit
section
variable {P:Program} {B:Tab} {Φ:FuncId->Option Ct} {F:Fr}
structure AddE (ops ops':Array Oper) (j i:Nat):Prop where
 s:ops'.size=ops.size
 ne:∀k,k≠j->ops'[k]? = ops[k]?
 at_:∀o,ops[j]? = some o->ops'[j]? = some (bw8 i o)
 gd:∀(k:Nat)(o:Oper),ops[k]? = some o->o.guard=none
theorem cco(hΦ:uw P F Φ)(hB:TabOk P B)(hmix:P.follows .mixedOrders=true){id:Nat}{ops:Array Oper}(hfv:∀o∈toL ops,∀k,o.dst=some k->F.fv k=none)(hr:byv F.nt (toL ops)=true){K:Env->Mem->Prop}{Q:Exit->Act->World->Prop}
  (hQ:∀p env M a w,St F p env M a w->K env M->Q .normal a w) {p:Ow} {env:Env} {M:Mem} {a:Act} {w:World} (h:St F p env M a w)
  (hA:hxT B Φ (bpi (toL ops)) (afh 0 (toL ops)) env M K) (hB':hxT B Φ (bqa (toL ops)) (Nat.succ (afh 0 (toL ops))) env M K):(Code.region id ops true).wp P Q a w:=by
 exact False.elim hA
end
end Go.Bm
/- The ff machine:soundness. -/
namespace Go.Bm
open Go.RowKit
section
variable {P:Program} {B:Tab} {Φ:FuncId->Option Ct}
theorem by7{F:Fr}{p:Ow}{env:Env}{M:Mem}{a:Act}{w:World}(h:St F p env M a w){t:Nat}(hb:(gt env t).isB=true):a.tmps.getD t undef=.bool (gt env t).boolV:=by obtain⟨b,h1,h2⟩:=asw hb;have:=h.slots t;rw[h1,cf,jy]at this;rw[this,h2]
theorem aad(hΦ:uf P Φ)(hB:TabOk P B)(hmix:P.follows .mixedOrders=true)(cut:Nat->Nat):(c:Code)->(F:Fr)->ah4 P F->(A:Ann)->(K:Ex->Env->Mem->Prop)->(env:Env)->(M:Mem)->okC F.nt cut c=true->ahp F.fv c->ev B Φ cut c A K env M->
  ∀(p:Ow)(a:Act)(w:World),St F p env M a w->c.wp P (abl F K) a w
 |.skip,F,hG,A,K,env,M,_,_,h,p,a,w,hs=>by simp only[ev]at h;exact wp_skip ⟨p,env,M,hs,h⟩
 |.ret,F,hG,A,K,env,M,_,_,h,p,a,w,hs=>by simp only[ev]at h;exact wp_ret ⟨p,env,M,hs,h⟩
 |.exit id,F,hG,A,K,env,M,_,_,h,p,a,w,hs=>by simp only[ev]at h;exact wp_exit ⟨p,env,M,hs,h⟩
 |.seq x y,F,hG,A,K,env,M,hc,hf,h,p,a,w,hs=>by
  simp only[okC,be,a0b]at hc
  have fin:∀A2:Ann,x.wp P (abl F (ah0 (fun env M=>ev B Φ cut y A2 K env M) K)) a w->(Code.seq x y).wp P (abl F K) a w:=fun A2 hw=>by
   refine wp_seq (a2u (fun e a' w' he=>?_) hw)
   cases e with
   |normal=>obtain⟨p',env',M',h1,h2⟩:=he;exact aad hΦ hB hmix cut y F hG A2 K env' M' hc.2 hf.2 h2 p' a' w' h1
   |exit id|ret|goto l=>exact he
   |panic c|outgrown=>exact he.elim
  have nj:∀A:Ann,ev B Φ cut (.seq x y) A K env M=ev B Φ cut x A.fst (ah0 (fun env M=>ev B Φ cut y A.snd K env M) K) env M->ev B Φ cut (.seq x y) A K env M->(Code.seq x y).wp P (abl F K) a w:=fun A e h=>by rw[e]at h;exact fin A.snd (aad hΦ hB hmix cut x F hG A.fst _ env M hc.1 hf.1 h p a w hs)
  cases A with
  |n|s A1 A2|l ss os ks A=>exact nj _ (by simp only[ev]) h
  |j ss os ks A=>
   simp only[ev]at h
   cases hb:noW ks x with
   |false=>rw[hb]at h;exact h.elim
   |true=>rw[hb]at h;simp only[a0d,dk]at h;exact fin A.snd (bew hs (aad hΦ hB hmix cut x (mkF F (Imm F p M w) w ks a) hG A.fst _ env M hc.1 (tn x hb hf.1) h p a w (hs.fwd ks)))
 |.region id ops draw,F,hG,A,K,env,M,hc,hf,h,p,a,w,hs=>by
  simp only[okC,be,a0b]at hc;simp only[ev]at h;have hQ:∀p env M a w,St F p env M a w->(fun env M=>K .nm (clr env) M) env M->abl F K .normal a w:=fun p env M a w h1 h2=>⟨p,clr env,M,h1.weak (bk1 env),h2⟩
  cases draw with
  |false=>
   simp only at h;have h1:=hc.1;have h2:∀o∈ops.toList,∀k,o.dst=some k->F.fv k=none:=by rw[←ew];exact hf
   rw[ew]at h1
   cases hsq:Nat.beq (cut id) 1600 with
   |true=>
    rw[hsq]at h;simp only[a0d]at h
    cases hn:nogd env with
    |false=>rw[hn]at h;exact h.elim
    |true=>
    rw[hn]at h;have:=buf (P:=P) ⟨hΦ,hG⟩ hB ops (abl F K) (fun env M=>K .nm (clr env) M) hQ ops.toList p env M a w h1 h2 (arx hn) hs (by rw[←ew ops];exact h);have e:ops=ops.toList.toArray:=by simp
    rw[e];exact wp_region_lit (by simpa using this)
   |false=>
   rw[hsq]at h;simp only[a0j]at h
   cases hsp:Nat.beq (cut id) 1500 with
   |true=>
    rw[hsp]at h;simp only[a0d]at h;have:=cbg (P:=P) ⟨hΦ,hG⟩ hB ops (abl F K) (fun env M=>K .nm (clr env) M) hQ ops.toList p env M a w h1 h2 hs (by rw[←ew ops];exact h);have e:ops=ops.toList.toArray:=by simp
    rw[e];exact wp_region_lit (by simpa using this)
   |false=>
   rw[hsp]at h;simp only[a0j]at h
   cases hn:nogd env with
   |false=>rw[hn]at h;exact h.elim
   |true=>
   rw[hn]at h;replace h:=aqs (B:=B) (Φ:=Φ) _ _ _ (arx hn) h;have:=bx0 (P:=P) ⟨hΦ,hG⟩ hB ops (abl F K) (fun env M=>K .nm (clr env) M) hQ ops.toList p env M a w h1 h2 hs (by rw[←ew ops];exact h);have e:ops=ops.toList.toArray:=by simp
   rw[e];exact wp_region_lit (by simpa using this)
  |true=>
   simp only at h
   cases hbx:Nat.beq (cut id) 999999 with
   |true=>rw[hbx]at h hc;simp only[a0d]at h;have hs1:=xj [] (ajd env (toL ops)) M env hs;generalize ql [] (ajd env (toL ops)) M env=z at h hs1;obtain⟨env1,M1⟩:=z;exact cbj ⟨hΦ,hG⟩ hB hmix hc.1 hf hc.2 hQ hs1 h
   |false=>
   rw[hbx]at h hc;simp only[a0j]at h hc
   cases htw:Nat.beq (cut id) 999998 with
   |true=>rw[htw]at h hc;simp only[a0d]at h hc;exact cco ⟨hΦ,hG⟩ hB hmix hf hc.2 hQ hs h.1 h.2
   |false=>
   rw[htw]at h hc;simp only[a0j]at h hc
   cases hpq:Nat.ble 10000 (cut id)with
   |true=>
    rw[hpq]at h hc;simp only[a0d]at h hc;generalize mC (cut id)=n at h hc;generalize hrC (cut id)=hr0 at h hc;generalize bqg (cut id)=ks at h
    cases hn:ab0 env with
    |false=>rw[hn]at h;exact h.elim
    |true=>
    rw[hn]at h;simp only[a0d]at h;have hc2:=hc.2;simp only[be,a0b]at hc2;exact boy (R:=hr0) (R2:=true) (ks:=ks) (as:=[]) ⟨hΦ,hG⟩ hB hmix hc2.1 hf hc2.2 (fun h=>by cases h) (fun i hi hfl=>bl4 hi hfl) hQ hs hn h
   |false=>
   rw[hpq]at h hc;simp only[a0j]at h hc
   cases hpm:Nat.ble 2000 (cut id)with
   |true=>
    rw[hpm]at h hc;simp only[a0d]at h hc;generalize Nat.sub (cut id) (ayb (cut id))=n at h hc;generalize (bif Nat.ble 5000 (cut id)then aqr env (toL ops)else [])=as at h
    obtain⟨env1,M1,e1,hs1⟩:∃env1 M1,(bif bqv (cut id)then ql [] (ajd env (toL ops)) M env else (env,M))=(env1,M1)/\St F p env1 M1 a w:=by
     cases bqv (cut id)with
     |true=>exact⟨_,_,rfl,xj [] (ajd env (toL ops)) M env hs⟩
     |false=>exact⟨env,M,rfl,hs⟩
    rw[e1]at h;simp only at h
    cases hn:ab0 env1 with
    |false=>rw[hn]at h;exact h.elim
    |true=>
    rw[hn]at h;simp only[a0d]at h;have hc2:=hc.2;simp only[be,a0b]at hc2;exact boy (R:=false) (R2:=false) (ks:=[]) (as:=as) ⟨hΦ,hG⟩ hB hmix hc2.1 hf hc2.2 (fun _=>rfl) (fun i hi hfl=>bl4 hi hfl) hQ hs1 hn h
   |false=>
   rw[hpm]at h hc;simp only[a0j]at h hc
   cases hfx:Nat.ble 1000 (cut id)with
   |true=>
    rw[hfx]at h hc;simp only[a0d]at h hc;generalize Nat.sub (cut id) 1000=n at h hc;obtain⟨env1,M1,e1,hs1⟩:∃env1 M1,ql [] (ato env (toL ops)) M env=(env1,M1)/\St F p env1 M1 a w:=⟨_,_,rfl,xj [] (ato env (toL ops)) M env hs⟩;rw[e1]at h;simp only at h
    cases hn:ab0 env1 with
    |false=>rw[hn]at h;exact h.elim
    |true=>
    rw[hn]at h;simp only[a0d]at h;exact bni (R:=false) (ks:=[]) (as:=[]) ⟨bv6 hΦ,hG⟩ hB hmix hc.1 hf hc.2 (fun _=>rfl) (fun h=>by cases h) hQ hs1 hn (by simp only[axz,byk];exact h)
   |false=>
   rw[hfx]at h hc;simp only[a0j]at h hc
   cases hhx:Nat.ble 500 (cut id)with
   |true=>
    rw[hhx]at h hc;simp only[a0d]at h hc;generalize Nat.sub (cut id) 500=n at h hc
    cases hn:ab0 env with
    |false=>rw[hn]at h;exact h.elim
    |true=>
    rw[hn]at h;simp only[a0d]at h;exact bni (R:=false) (ks:=[]) (as:=[]) ⟨hΦ,hG⟩ hB hmix hc.1 hf hc.2 (fun _=>rfl) (fun h=>by cases h) hQ hs hn (by simp only[axz,byk];exact h)
   |false=>
   rw[hhx]at h hc;simp only[a0j]at h hc
   cases hn:nogd env with
   |false=>rw[hn]at h;exact h.elim
   |true=>
   rw[hn]at h;replace h:=blf (B:=B) (Φ:=Φ) (fun env hI he=>aqs (B:=B) (Φ:=Φ) _ _ _ hI he) _ _ _ (arx hn) h;exact cav ⟨hΦ,hG⟩ hB hmix hc.1 hf hc.2 hQ hs h
 |.cond g x y,F,hG,A,K,env,M,hc,hf,h,p,a,w,hs=>by
  simp only[okC,be,a0b]at hc
  cases g with
  |const v|func v|global v=>simp only[ev]at h
  |tmp t=>
   have plain:∀(A1 A2:Ann)(F':Fr)(hG':ah4 P F')(K':Ex->Env->Mem->Prop),F'.nt=F.nt->ahp F'.fv x->ahp F'.fv y->St F' p env M a w->(gt env t).isB=true->cnd (gt env t).boolV (ev B Φ cut x A1 K' env M) (ev B Φ cut y A2 K' env M)->(Code.cond (.tmp t) x y).wp P (abl F' K') a w:=fun A1 A2 F' hG' K' hnt hfx hfy hs' hb hcn=>wp_cond_split (t:=(gt env t).boolV) (by7 hs' hb) (fun e=>aad hΦ hB hmix cut x F' hG' A1 K' env M (by rw[hnt];exact hc.1) hfx (hcn.1 e) p a w hs') (fun e=>aad hΦ hB hmix cut y F' hG' A2 K' env M (by rw[hnt];exact hc.2) hfy (hcn.2 e) p a w hs')
   have nj:∀A:Ann,ev B Φ cut (.cond (.tmp t) x y) A K env M=(bif (gt env t).isB then cnd (gt env t).boolV (ev B Φ cut x A.fst K env M) (ev B Φ cut y A.snd K env M)else False)->ev B Φ cut (.cond (.tmp t) x y) A K env M->(Code.cond (.tmp t) x y).wp P (abl F K) a w:=fun A e h=>by
    rw[e]at h
    cases hb:(gt env t).isB with
    |false=>rw[hb]at h;exact h.elim
    |true=>rw[hb]at h;exact plain A.fst A.snd F hG K rfl hf.1 hf.2 hs hb h
   cases A with
   |n|s A1 A2|l ss os ks A=>exact nj _ (by simp only[ev]) h
   |j ss os ks A=>
    simp only[ev]at h
    cases hb:cd [(gt env t).isB,noW ks x,noW ks y]with
    |false=>rw[hb]at h;exact h.elim
    |true=>rw[hb]at h;simp only[a0d,dk]at h;simp only[br,bz,a0o,a0b]at hb;exact bew hs (plain A.fst A.snd (mkF F (Imm F p M w) w ks a) hG _ rfl (tn x hb.2.1 hf.1) (tn y hb.2.2 hf.2) (hs.fwd ks) hb.1 h)
 |.block id c,F,hG,A,K,env,M,hc,hf,h,p,a,w,hs=>by
  simp only[okC]at hc
  have fin:∀(F':Fr)(K2:Ex->Env->Mem->Prop),c.wp P (abl F' (apn id K2)) a w->(Code.block id c).wp P (abl F' K2) a w:=fun F' K2 hw=>by
   refine wp_block (a2u (fun e a' w' he=>?_) hw)
   cases e with
   |normal=>exact he
   |exit id'=>
    obtain⟨p',env',M',h1,h2⟩:=he;simp only[apn,dg]at h2;simp only[Exit.inBlock];split at h2
    ·rename_i e;rw[a0a e];exact⟨p',env',M',h1,h2⟩
    ·rename_i e;rw[ds e];exact⟨p',env',M',h1,h2⟩
   |ret|goto l=>exact he
   |panic c|outgrown=>exact he.elim
  have nj:∀A:Ann,ev B Φ cut (.block id c) A K env M=ev B Φ cut c A (apn id K) env M->ev B Φ cut (.block id c) A K env M->(Code.block id c).wp P (abl F K) a w:=fun A e h=>by rw[e]at h;exact fin F K (aad hΦ hB hmix cut c F hG A _ env M hc hf h p a w hs)
  cases A with
  |n|s A1 A2|l ss os ks A=>exact nj _ (by simp only[ev]) h
  |j ss os ks A=>
   simp only[ev]at h
   cases hb:noW ks c with
   |false=>rw[hb]at h;exact h.elim
   |true=>rw[hb]at h;simp only[a0d,dk]at h;exact bew hs (fin _ _ (aad hΦ hB hmix cut c (mkF F (Imm F p M w) w ks a) hG A _ env M hc (tn c hb hf) h p a w (hs.fwd ks)))
 |.loop c,F,hG,A,K,env,M,hc,hf,h,p,a,w,hs=>by
  simp only[okC]at hc
  cases A with
  |n|s A1 A2|j ss os ks A=>simp only[ev]at h
  |l ss os ks A=>
   simp only[ev]at h
   cases hb:noW ks c with
   |false=>rw[hb]at h;exact h.elim
   |true=>
    rw[hb]at h;simp only[a0d]at h
    cases hrd:anv ss os env M with
    |none=>rw[hrd]at h;exact h.elim
    |some q=>
     rw[hrd]at h;simp only[bn]at h;obtain⟨n,hn⟩:=h;obtain⟨p1,h1,hK⟩:=axt hs hrd;obtain⟨o1,o2⟩:=at6 hs hrd;generalize hbody:(fun (s:wv ss×rn os) (next:wv ss×rn os->Prop)=>imps (okS ss s.1) (imps (okO os s.2) (ev B Φ cut c A (yo ss os next K) (ap (ao8 ss s.1) (kept q.2 ks)) (ml os s.2))))=body at hn
     have key:=bg3 (P:=P) (c:=c) (Q':=abl F K) (ι:=Nat) (fun n a1 w1=>∃(p2:Ow)(s:wv ss×rn os),St (mkF F (Imm F p1 (ml os q.1.2) w) w ks a) p2 (ap (ao8 ss s.1) (kept q.2 ks)) (ml os s.2) a1 w1/\ab (okS ss s.1)/\ab (okO os s.2)/\xw body n s) id
      (fun n a1 w1 ⟨p2,s,g1,g2,g3,g4⟩=>by
       cases n with
       |zero=>simp only[xw]at g4
       |succ n=>
        simp only[xw]at g4;have hb1:=congrFun (congrFun hbody s) (xw body n);rw[←hb1]at g4;simp only[bjr]at g4;refine a2u (fun e a' w' he=>?_) (aad hΦ hB hmix cut c (mkF F (Imm F p1 (ml os q.1.2) w) w ks a) hG A _ _ _ hc (tn c hb hf) (g4 g2 g3) p2 a1 w1 g1)
        cases e with
        |normal=>
         obtain⟨p3,env3,M3,k1,k2⟩:=he;simp only[yo,bbe]at k2
         cases hr3:anv ss os env3 M3 with
         |none=>rw[hr3]at k2;exact k2.elim
         |some s'=>rw[hr3]at k2;obtain⟨p4,k3,_⟩:=axt k1 hr3;obtain⟨k4,k5⟩:=at6 k1 hr3;exact⟨n,a3r n,p4,s'.1,St.add hK k3,k4,k5,k2⟩
        |exit id|ret|goto l=>obtain⟨p3,env3,M3,k1,k2⟩:=he;exact⟨p3,env3,M3,h1.back k1,k2⟩
        |panic ch=>exact he.elim
        |outgrown=>exact he.elim)
     exact key n a w ⟨p1,q.1,St.add hK (h1.fwd ks),o1,o2,hn⟩
 |.scope c,F,hG,A,K,env,M,hc,hf,h,p,a,w,hs=>by
  simp only[okC]at hc;simp only[ev]at h;refine wp_scope_straight (a2u (fun e a' w' he=>?_) (aad hΦ hB hmix cut c F hG A _ env M hc hf h p a w hs))
  cases e with
  |goto l=>obtain⟨_,_,_,_,h2⟩:=he;exact h2.elim
  |normal|exit id|ret|panic ch|outgrown=>exact he
 |.goto l,F,hG,A,K,env,M,_,_,h,p,a,w,hs=>by simp only[ev]at h;exact wp_goto ⟨p,env,M,hs,h⟩
 |.label _,F,hG,A,K,env,M,_,_,h,p,a,w,hs=>by simp only[ev]at h;exact wp_label ⟨p,env,M,hs,h⟩
 |.rangeFunc _ _ _ _,F,hG,A,K,env,M,_,_,h,p,a,w,hs|.refuse _,F,hG,A,K,env,M,_,_,h,p,a,w,hs=>by simp only[ev]at h
end
end Go.Bm
/- The ff machine:a contract out of a walk. -/
namespace Go.Bm
open Go.RowKit
theorem bim{Im Im':Nat->Prop}{w:World}:(rs:List (Bool×O))->af9 rs=true->(x:gq rs)->(S:Nat->Prop)->(us:List Value)->g9 Im w rs x S us->g9 Im' w rs x S us
 |[],_,x,S,us,r=>by simpa only [g9]using r
 |q::rs,h,x,S,us,r=>by simp only[af9,be,a0b]at h;simp only[g9]at r⊢;obtain⟨u,us',vs,S1,S2,e1,e2,e3,e4,e5,e6,e7,e8⟩:=r;exact⟨u,us',vs,S1,S2,e1,e2,e3,e4,e5,e6,ae5 _ h.1 _ _ _ e7,bim rs h.2 _ _ _ e8⟩
section
variable {F:Fr} {p p' p'':Ow} {env env':Env} {M M' M'':Mem} {a a':Act} {w w' w'':World} {P:Program} {B:Tab} {Φ:FuncId->Option Ct}
theorem caf{t:TypeId}{u r:Value}(h:(Instr.loadAt t u).run P w=.ok r w):(do loadVar t (←asAddr u):Sem Value).run P w=.ok r w:=by
 cases u<;>simp[Instr.loadAt,Instr.sureAddr]at h
 case pointer o=>
  cases o with
  |none=>simp at h
  |some ad=>simpa[asAddr]using h
def bj8(tmps:Array Value):ResultVar->Sem Value
 |.tmp t=>pure (tmps.getD t undef)
 |.cell t ty'=>do loadVar ty' (←asAddr (tmps.getD t undef))
theorem ag9(fn:Func)(tmps:Array Value):results fn tmps=(do let vs ←fn.results.mapM (bj8 tmps);pure (if h:vs.size=1 then vs[0]else .tuple vs):Sem Value):=by unfold results;congr
theorem bcz(hB:TabOk P B)(hp:Hp F p M w)(hs:∀t,ao p.β M (Imm F p M w) w (gt env t) (a.tmps.getD t undef))(rv:ResultVar)(v:V)(hv:bdk B env M rv=some v) :
  ∃r,(bj8 a.tmps rv).run P w=.ok r w/\ao p.β M (Imm F p M w) w v r:=by
 cases rv with
 |tmp t=>simp only[bdk,a0e]at hv;subst hv;exact⟨_,by simp[bj8],hs t⟩
 |cell t ty'=>
  simp only[bdk]at hv;split at hv
  ·rename_i v' he;cases hv;obtain⟨r,h1,h2⟩:=bgo (P:=P) hB hp _ _ (hs t) (by rw[he];trivial);rw[he]at h2;exact⟨r,caf h1,h2⟩
  ·cases hv
theorem boc{v:V}{u:Value}{g:Bool}(hp:Hp F p M w)(h:ao p.β M (Imm F p M w) w v u)(hc:od (oz g v)=true):∃vs:List Value,(g=true->u=.agg vs.toArray)/\(g=false->vs=[u])/\ak p.β M (Imm F p M w) w (oz g v) vs:=by
 cases v with
 |ag y=>
  cases g with
  |false=>simp[oz,od]at hc
  |true=>simp only[ao]at h;obtain⟨vs,h1,h2⟩:=h;exact⟨vs,fun _=>h1,(fun h=>nomatch h),by simpa only [oz,a0d]using h2⟩
 |any|tup _|gd _ _ _ _=>cases g<;>simp[oz,od]at hc
 |ifc t x=>cases g with
  |true=>simp[oz,od]at hc
  |false=>exact⟨[u],(fun h=>nomatch h),fun _=>rfl,by simpa only [oz,a0j,ao]using h⟩
 |p x y=>cases g with
  |true=>simp[oz,od]at hc
  |false=>exact⟨[u],(fun h=>nomatch h),fun _=>rfl,by simpa only [oz,a0j,ao]using h⟩
 |u=>cases g with
  |true=>simp[oz,od]at hc
  |false=>exact⟨[u],(fun h=>nomatch h),fun _=>rfl,by simpa only [oz,a0j,ao]using h⟩
 |ref k π=>cases g with
  |true=>simp[oz,od]at hc
  |false=>exact⟨[u],(fun h=>nomatch h),fun _=>rfl,by simpa only [oz,a0j,ao]using h⟩
 |ad k π=>cases g with
  |true=>simp[oz,od]at hc
  |false=>exact⟨[u],(fun h=>nomatch h),fun _=>rfl,by simpa only [oz,a0j,ao]using h⟩
 |d t x=>cases g with
  |true=>simp[oz,od]at hc
  |false=>exact⟨[u],(fun h=>nomatch h),fun _=>rfl,by simpa only [oz,a0j,ao]using h⟩
 |nl=>cases g with
  |true=>simp[oz,od]at hc
  |false=>exact⟨[u],(fun h=>nomatch h),fun _=>rfl,by simpa only [oz,a0j,ao]using h⟩
 |np=>cases g with
  |true=>simp[oz,od]at hc
  |false=>exact⟨[u],(fun h=>nomatch h),fun _=>rfl,by simpa only [oz,a0j,ao]using h⟩
 |fn f x=>cases g with
  |true=>simp[oz,od]at hc
  |false=>exact⟨[u],(fun h=>nomatch h),fun _=>rfl,by simpa only [oz,a0j,ao]using h⟩
 |bx x=>cases g with
  |true=>simp[oz,od]at hc
  |false=>exact⟨[u],(fun h=>nomatch h),fun _=>rfl,by simpa only [oz,a0j,ao]using h⟩
theorem ca5(hp:Hp F p M w)(o:O)(v:V)(vs:List Value)(x:o.strip.den)(e:List Ev)(r:ak p.β M (Imm F p M w) w v vs)(h:bqj M o v=some (x,e,M')) :
  ∃p',∃S:Nat->Prop,Tr F p M w e p' M' w/\(∀b,p'.L b<->p.L b\/S b)/\(∀b,S b->¬p.L b)/\Rel (Imm F p' M' w) w o x S vs:=by
 unfold bqj at h;split at h
 ·rename_i k i;split at h
  ·rename_i e0 l hk
   cases hb:nq k gid with
   |false=>rw[hb]at h;cases h
   |true=>
    rw[hb]at h;simp only[a0d]at h;split at h
    ·rename_i y hy;cases h;have hg:k<gid:=by simp only[nq,br,bz,a0o,a0b]at hb;exact a08 hb.2
     simp only[ak]at r;obtain⟨ob,pl,h1,h2,⟨q,h3⟩,h4⟩:=r;rw[hk]at h1;cases h1;have hi:i<l.length:=by simp only[gok]at h2;exact h2.1
     have hrel:=hp.objs k _ hk;obtain⟨us,pl1,Si,e1,e2,e3,_⟩:=atv hi hrel;rw[e1 none]at h4;cases h4;have cv:=Cv.whole hp gid hk hg;obtain⟨w1,w2⟩:=afn hy;obtain⟨S',s1,s2⟩:=acg e0 o w1 _ x Si vs w2 (Rel.keep cv.tr.keep _ _ _ _ (fun _ _=>rfl) e3);have hd:=Tr.drop cv.tr.hp (fun b=>p.L b\/S' b) (fun b hb=>(cv.L b).2 (hb.imp id (fun h=>e2 b (s1 b h))));refine⟨⟨p.β,p.σ,fun b=>p.L b\/S' b⟩,S',by have:=cv.tr.trans hd;rwa [agk]at this,fun b=>a17,fun b hb=>cv.sp b (e2 b (s1 b hb)),s2 _ (fun b hb=>(hd.keep b hb).1) (fun b hb hn=>?_)⟩;have hl:=cv.tr.hp.lim b ((cv.L b).2 (.inr (e2 b hb)));exact⟨hl.1,.inr hl.2.1.r,fun h=>h.elim (cv.sp b (e2 b hb)) hn,hl.2.2⟩
    ·cases h
  ·cases h
 ·cases h
theorem bm0(hp:Hp F p M w)(o:O)(v:V)(vs:List Value)(x:o.strip.den)(e:List Ev)(r:ak p.β M (Imm F p M w) w v vs)(h:bra M o v=some (x,e,M')) :
  ∃p',∃S:Nat->Prop,Tr F p M w e p' M' w/\(∀b,p'.L b<->p.L b\/S b)/\(∀b,S b->¬p.L b)/\Rel (Imm F p' M' w) w o x S vs:=by
 have key:(match conv gid o.strip v M with
  |some (q,e,M')=>(match wkO q o with|some x=>some (x,e,M')|none=>bqj M o v)
  |none=>none)=some (x,e,M')->∃p',∃S:Nat->Prop,Tr F p M w e p' M' w/\(∀b,p'.L b<->p.L b\/S b)/\(∀b,S b->¬p.L b)/\Rel (Imm F p' M' w) w o x S vs:=fun h=>by
  split at h
  ·rename_i q e1 M1 hc;split at h
   ·rename_i y hy;cases h;obtain⟨_,p1,S,cv⟩:=ahg gid o.strip v M p vs q e M' hp r hc;obtain⟨w1,w2⟩:=afn hy;obtain⟨S',s1,s2⟩:=acg q.o o w1 q.x x S vs w2 cv.rel;have hd:=Tr.drop cv.tr.hp (fun b=>p.L b\/S' b) (fun b hb=>(cv.L b).2 (hb.imp id (s1 b)));refine⟨⟨p1.β,p1.σ,fun b=>p.L b\/S' b⟩,S',by have:=cv.tr.trans hd;rwa [agk]at this,fun b=>a17,fun b hb=>cv.sp b (s1 b hb),s2 _ (fun b hb=>(hd.keep b hb).1) (fun b hb hn=>?_)⟩;have hl:=cv.tr.hp.lim b ((cv.L b).2 (.inr hb));exact⟨hl.1,.inr hl.2.1.r,fun h=>h.elim (cv.sp b hb) hn,hl.2.2⟩
   ·exact ca5 hp o v vs x e r h
  ·cases h
 cases o with
 |fz t=>
  simp only[bra]at h;have hf:=yu v M hp;generalize cu M v=z at h hf;obtain⟨e1,M1⟩:=z;simp only at h hf;split at h
  ·rename_i y hy;cases h;exact⟨p,fun _=>False,hf,fun b=>by simp,fun b hb=>hb.elim,by simp only[Rel];exact aiu _ t vs x (hf.c _ _ r) hy⟩
  ·cases h
 |p a b|sl a|pt a|mp _ _|op _=>exact key h
theorem bof(hB:TabOk P B):(rs:List ResultVar)->(qs:List (Bool×O))->(p:Ow)->(env:Env)->(M:Mem)->(y:gq qs)->Hp F p M w->(∀t,ao p.β M (Imm F p M w) w (gt env t) (a.tmps.getD t undef))->au3 B env M rs qs=some y->
  ∃us p' M',∃S:Nat->Prop,(rs.mapM (bj8 a.tmps)).run P w=.ok us w/\Hp F p' M' w/\ju (Imm F p M w) (Imm F p' M' w) w w/\(∀b,p.L b->p'.L b)/\(∀b,S b->p'.L b)/\(∀b,S b->¬p.L b)/\g9 (Imm F p' M' w) w qs y S us
 |[],[],p,env,M,y,hp,hs,h=>by exact⟨[],p,M,fun _=>False,rfl,hp,ju.refl _ _,fun b hb=>hb,fun b hb=>hb.elim,fun b hb=>hb.elim,by simp only[g9]⟩
 |[],_::_,p,env,M,y,hp,hs,h|_::_,[],p,env,M,y,hp,hs,h=>by simp[au3]at h
 |r::rs,q::qs,p,env,M,y,hp,hs,h=>by
  simp only[au3]at h;split at h
  ·rename_i v hv
   cases hc:od (oz q.1 v)with
   |false=>rw[hc]at h;cases h
   |true=>
    rw[hc]at h;simp only[a0d]at h;split at h
    ·rename_i x e M1 ho;split at h
     ·rename_i z hz;cases h;obtain⟨u,u1,u2⟩:=bcz (P:=P) (a:=a) hB hp hs r v hv;obtain⟨vs,g1,g2,g3⟩:=boc hp u2 hc;obtain⟨p1,S,t1,t2,t3,t4⟩:=bm0 hp q.2 (oz q.1 v) vs x e g3 ho;obtain⟨us,p2,M2,S2,k1,k2,k3,k4,k5,k6,k7⟩:=bof hB rs qs p1 (p8 env e) M1 z t1.hp (fun t=>by rw[uu];exact t1.s _ _ (hs t)) hz;refine⟨u::us,p2,M2,fun b=>S b\/S2 b,?_,k2,t1.keep.trans k3,fun b hb=>k4 b ((t2 b).2 (.inl hb)),fun b hb=>hb.elim (fun h=>k4 b ((t2 b).2 (.inr h))) (k5 b),fun b hb=>hb.elim (t3 b) (fun h hL=>k6 b h ((t2 b).2 (.inl hL))),?_⟩
      ·simp only[a4u,a1q,u1,a14,k1,a2l]
      ·simp only[g9];exact⟨u,us,vs,S,S2,rfl,g1,g2,fun b hb=>.inl hb,fun b hb=>.inr hb,fun b hb hb'=>k6 b hb' ((t2 b).2 (.inr hb)),Rel.keep k3 _ _ _ _ (fun _ _=>rfl) t4,k7⟩
     ·cases h
    ·cases h
  ·cases h
theorem alx:∀(l:List V)(i t:Nat),gt (acj i l) t=if i<=t then (l[t-i]?).getD .any else .any
 |[],i,t=>by simp[acj,gt]
 |x::r,i,t=>by
  simp only[acj];rw[iy];by_cases h:i=t
  ·subst h;simp
  ·rw[ds h,alx r (Nat.succ i) t];by_cases h1:Nat.succ i<=t
   ·rw[a0a h1,a0a (by omega),show t-i=(t-Nat.succ i)+1 by omega];simp
   ·rw[ds h1,ds (by omega)]
theorem ae2{A Im:Nat->Prop}{β:Nat->Value}{M:Mem}(hA:∀b,A b->Im b):(gs:List Bool)->(ts:List T)->(x:db ts)->(us:List Value)->mg A w gs ts x us->(qs:List TypeId)->(m:Nat)->gs=ap (qs.map (fun q=>(B.τ q).agg)) (aae false m)->us.length=gs.length/\(l7 B qs ts x).length=gs.length/\ab (okL ts x)/\
  ∀(i:Nat)(v:V)(u:Value),(l7 B qs ts x)[i]? = some v->us[i]? = some u->ao β M Im w v u
 |[],[],x,us,h,qs,_,_=>by simp only[mg]at h;subst h;exact⟨rfl,by cases qs<;>rfl,trivial,fun i v u hv=>by cases qs<;>simp[l7]at hv⟩
 |[],_::_,x,us,h,_,_,_|_::_,[],x,us,h,_,_,_=>by simp[mg]at h
 |g::gs,t::ts,x,us,h,[],m,e=>by
  simp only[mg]at h;obtain⟨u,us',vs,rfl,h1,h2,h3,h4⟩:=h
  cases m with
  |zero=>simp[ap,aae]at e
  |succ m=>
   simp only[a4e,ap,aae,a0q]at e;obtain⟨i1,i2,i3,i4⟩:=ae2 (β:=β) (M:=M) hA gs ts x.2 us' h4 [] m (by simpa only [a4e,ap]using e.2);refine⟨by simp[i1],by simp[l7,i2],by simp only[okL,kv];exact⟨me _ _ (aq.ok _ _ _ h3),i3⟩,fun i v u' hv hu=>?_⟩
   cases i with
   |zero=>simp only[l7,a1u,a0e]at hv hu;subst hv;subst hu;have r:ak β M Im w (n9 t x.1) vs:=th t x.1 vs (aq.keep (fun b hb=>⟨hA b hb,rfl⟩) _ _ _ h3);have:=h2 e.1;subst this;exact bu r
   |succ i=>exact i4 i v u' (by simpa[l7]using hv) (by simpa using hu)
 |g::gs,t::ts,x,us,h,q::qs,m,e=>by
  simp only[mg]at h;obtain⟨u,us',vs,rfl,h1,h2,h3,h4⟩:=h;simp only[a2h,ap,a0q]at e;obtain⟨i1,i2,i3,i4⟩:=ae2 (β:=β) (M:=M) hA gs ts x.2 us' h4 qs m e.2;refine⟨by simp[i1],by simp[l7,i2],by simp only[okL,kv];exact⟨me _ _ (aq.ok _ _ _ h3),i3⟩,fun i v u' hv hu=>?_⟩
  cases i with
  |zero=>
   simp only[l7,a1u,a0e]at hv hu;subst hv;subst hu;have r:ak β M Im w (n9 t x.1) vs:=th t x.1 vs (aq.keep (fun b hb=>⟨hA b hb,rfl⟩) _ _ _ h3);rw[←e.1]
   cases g with
   |true=>simp only[age,a0d,ao];exact⟨vs,h1 rfl,r⟩
   |false=>have:=h2 rfl;subst this;simp only[age,a0j];exact bu r
  |succ i=>exact i4 i v u' (by simpa[l7]using hv) (by simpa using hu)
theorem bxr (hB : TabOk P B) {f : FuncId} {fn : Func} {c : Code} (hf : P.funcs[f]? = some fn) (hb : fn.body = some c) (hn : (fn.name == "runtime.NumGoroutine") = false) (ct : Ct) (Q : db ct.args -> gq ct.rt -> Prop)
  (hga:ct.ga=agL B fn) (hfl:orb ct.sh (af9 ct.rt)=true) (hlen:ct.ga.length<=fn.ntmps)
  (h:∀x,ab (okL ct.args x)->ab (ct.pre x)->∀(F:Fr)(p:Ow)(a:Act)(w:World),ah4 P F->F.nt=fn.ntmps->F.fv=(fun _=>none)->St F p (acj 0 (l7 B (toL fn.params) ct.args x)) [] a w->c.wp P (abl F (azk B (toL fn.results) ct.rt (Q x))) a w):∀(A:Nat->Prop)(w:World)(us:List Value)(x:db ct.args),uj P A w->(∀b,A b->b<w.heap.size)->mg A w ct.ga ct.args x us->ab (ct.pre x)->
  Calls P f us.toArray w fun e w'=>∃r rs S,Q x r/\e=.returned (ot rs)/\Ext w w'/\(∀b,S b->w.heap.size<=b/\b<w'.heap.size)/\
   g9 (fun b=>b<w'.heap.size/\(ct.sh=true/\A b\/w.heap.size<=b)/\¬S b) w' ct.rt r S rs:=by
 intro Ab w us x hE hA hrel hpre;let F:Fr:=⟨w,w,Ab,fun _=>False,fun _=>False,fn.ntmps,fun _=>none,False⟩
 let p0:Ow:=⟨fun _=>undef,fun _ _=>False,fun _=>False⟩
 have himm:∀b,Ab b->Imm F p0 [] w b:=fun b hb=>⟨hA b hb,.inl hb,fun h=>h,fun k hk=>by simp[c6,go]at hk⟩;obtain⟨l1,l2,l3,l4⟩:=ae2 (B:=B) (β:=p0.β) (M:=[]) himm ct.ga ct.args x us hrel (toL fn.params) fn.nfree hga
 have hst:St F p0 (acj 0 (l7 B (toL fn.params) ct.args x)) [] { tmps:=us.toArray++Array.replicate (fn.ntmps-us.toArray.size) undef,defers:=[] } w:=by
  refine⟨rfl,by simp[F];omega,fun t v ht=>by simp[F]at ht,fun b hb=>hb.elim,fun b hb=>hb,fun t=>?_,⟨fun k o hk=>by simp[go]at hk,fun k k' b _ hk=>by simp[c6,go]at hk,fun k b hk=>by simp[c6,go]at hk,fun b hb=>hb.elim,rfl,⟨rfl,a0k _⟩,rfl,a0k _,fun b _ _=>rfl⟩⟩;rw[alx];simp only[a1j,a04,a3t]
  cases hx:(l7 B (toL fn.params) ct.args x)[t]? with
  |none=>simp only[a2w,ao]
  |some v=>
   have ht:=(a1i.1 hx).1;have hu:us[t]? = some us[t]:=a0p (by omega);simp only[a1n];have:(us.toArray++Array.replicate (fn.ntmps-us.toArray.size) undef).getD t undef=us[t]:=by rw[a3v,a3u (by have:=(a1i.1 hu).1;simpa using this)];simp[hu]
   rw[this];exact l4 t v _ hx hu
 refine a4f hf hb (a2u (fun e a' w' he=>?_) (h x l3 hpre F p0 _ w (hE.of fun b hb _=>⟨⟨hb,fun h=>h⟩,rfl⟩) rfl rfl hst))
 have key:∀p env M,St F p env M a' w'->bek (au3 B env M (toL fn.results) ct.rt) (Q x)->(e=.normal\/e=.ret)->bodyPost P fn (fun e w'=>∃r rs S,Q x r/\e=.returned (ot rs)/\Ext w w'/\(∀b,S b->w.heap.size<=b/\b<w'.heap.size)/\
   g9 (fun b=>b<w'.heap.size/\(ct.sh=true/\Ab b\/w.heap.size<=b)/\¬S b) w' ct.rt r S rs) e a' w':=by
  intro p env M hs hr hee;unfold bek at hr;split at hr
  ·rename_i r hres;obtain⟨rs,p',M',S,k1,k2,k3,k4,k5,k6,k7⟩:=bof (P:=P) (a:=a') hB (toL fn.results) ct.rt p env M _ hs.hp hs.slots hres;rw[ew]at k1
   have hrun:(results fn a'.tmps).run P w'=.ok (ot rs) w':=by
    rw[ag9,a4g];simp only[a1q,a4h,k1,a14,a2l]
    match rs with
    |[]|[u]=>rfl
    |u::u'::r=>simp[ot]
   have hpost:∃r' rs' S,Q x r'/\Ending.returned (ot rs)=.returned (ot rs')/\Ext w w'/\(∀b,S b->w.heap.size<=b/\b<w'.heap.size)/\g9 (fun b=>b<w'.heap.size/\(ct.sh=true/\Ab b\/w.heap.size<=b)/\¬S b) w' ct.rt r' S rs':=by
    refine⟨r,rs,S,hr,rfl,⟨k2.os,k2.tape,k2.output,k2.size,fun b hb=>k2.old b hb (fun h=>h)⟩,fun b hb=>⟨(k2.lim b (k5 b hb)).2.1.elim id (fun h=>h.1.elim),(k2.lim b (k5 b hb)).1⟩,?_⟩;rw[lq,a09]at hfl;rcases hfl with hsh|hfl
    ·refine g9.keep (fun b hb=>⟨hb.1,?_,fun hS=>hb.2.2.1 (k5 b hS)⟩) _ _ _ _ k7;rcases hb.2.1 with h1|h1|h1
     ·exact .inl ⟨hsh,h1⟩
     ·exact h1.elim
     ·exact .inr h1
    ·exact bim _ hfl _ _ _ k7
   rcases hee with rfl|rfl
   ·exact⟨hs.defers,_,hrun,hpost⟩
   ·exact⟨hs.defers,_,hrun,hpost⟩
  ·exact hr.elim
 cases e with
 |normal=>obtain⟨p,env,M,h1,h2⟩:=he;exact key p env M h1 h2 (.inl rfl)
 |ret=>obtain⟨p,env,M,h1,h2⟩:=he;exact key p env M h1 h2 (.inr rfl)
 |exit id|goto l=>obtain⟨p,env,M,h1,h2⟩:=he;exact h2.elim
 |panic ch|outgrown=>exact he.elim
theorem cdd (hB : TabOk P B) {f : FuncId} {fn : Func} {c : Code} (hf : P.funcs[f]? = some fn) (hb : fn.body = some c) (hn : (fn.name == "runtime.NumGoroutine") = false) (ct : Ct) (hmu : ct.mu = none)
  (hga:ct.ga=agL B fn) (hfl:orb ct.sh (af9 ct.rt)=true) (hlen:ct.ga.length<=fn.ntmps)
  (h:∀x,ab (okL ct.args x)->ab (ct.pre x)->∀(F:Fr)(p:Ow)(a:Act)(w:World),ah4 P F->F.nt=fn.ntmps->F.fv=(fun _=>none)->St F p (acj 0 (l7 B (toL fn.params) ct.args x)) [] a w->c.wp P (abl F (azk B (toL fn.results) ct.rt (fun r=>r=ct.res x))) a w):bw P f ct:=by
 refine⟨t6 hf hb hn,?_⟩;simp only[hmu,blm];intro Ab w us x hE hA hrel hpre cs;obtain⟨e,w',fr,⟨r,rs,S,hr,h1⟩,h2⟩:=bxr hB hf hb hn ct (fun x r=>r=ct.res x) hga hfl hlen h Ab w us x hE hA hrel hpre cs;subst hr;exact⟨e,w',fr,⟨rs,S,h1⟩,h2⟩
theorem cdh (hΦ : uf P Φ) (hB : TabOk P B) (hmix : P.follows .mixedOrders = true) {f : FuncId} {fn : Func} {c : Code} (hf : P.funcs[f]? = some fn) (hb : fn.body = some c) (hn : (fn.name == "runtime.NumGoroutine") = false) (ct : Ct) (hmu : ct.mu = none) (A : Ann) (cut : Nat -> Nat)
  (hga:ct.ga=agL B fn) (hfl:orb ct.sh (af9 ct.rt)=true) (hck:okC fn.ntmps cut c=true) (hlen:ct.ga.length<=fn.ntmps)
  (h:∀x,ab (okL ct.args x)->ab (ct.pre x)->evF B Φ cut fn c A ct x (fun r=>r=ct.res x)):bw P f ct:=
 cdd hB hf hb hn ct hmu hga hfl hlen fun x h1 h2 F p a w hG e1 e2 hst=>aad hΦ hB hmix cut c F hG A _ _ _ (by rw[e1];exact hck) (by rw[e2];exact q9 c) (h x h1 h2) p a w hst
end
end Go.Bm
/- The ff machine:what comes in,as data. -/
namespace Go.Bm
open Go.RowKit
def qc(P:Program)(r:TypeId->T->Bool):List Field->Nat->T->Bool
 |[],_,.u=>true
 |[f],off,d=>cd [Nat.beq f.offset off,Nat.beq (P.cellsOf f.type) d.size,r f.type d]
 |f::g::l,off,.p a b=>nob (cd [Nat.beq f.offset off,Nat.beq (P.cellsOf f.type) a.size,r f.type a]) (qc P r (g::l) (off+a.size) b)
 |_,_,_=>false
def ff(P:Program):Nat->TypeId->T->Bool
 |0,_,_=>false
 |n+1,t,d=>match P.underlying t,d with
  |some (.int k),.int k'=>afm k k'
  |some .bool,.bool|some .string,.str=>true
  |some (.slice e),.sl d=>cd [ff P n e d,Nat.beq (P.cellsOf e) d.size,neg (Nat.beq (P.bytesOf e) 0),neg (isZ d.size)]
  |some (.struct fs),d=>nob (Nat.beq (P.cellsOf t) d.size) (qc P (ff P n) fs.toList 0 d)
  |_,_=>false
section
variable {H:Type} {enc:TypeId×Value->H} {P:Program} {w:World} {base:Nat} {spare:Nat->Bool} {held:Bool}
theorem br8{Im:Nat->Prop}{r:TypeId->T->Bool}{cs:List Value}:(l:List Field)->(off:Nat)->(d:T)->qc P r l off d=true->(cs.drop off).length=d.size->
  (∀f∈l,∀d',r f.type d'=true->∃y,aq Im w d' y ((cs.drop f.offset).take (P.cellsOf f.type)))->∃y,aq Im w d y (cs.drop off)
 |[],off,.u,_,hl,_=>⟨(),by simp only[aq];exact a18 hl⟩
 |[f],off,d,h,hl,hf=>by
  have h':cd [Nat.beq f.offset off,Nat.beq (P.cellsOf f.type) d.size,r f.type d]=true:=by cases d<;>simpa only [qc]using h
  simp only[br,bz,a0o,a0b]at h';obtain⟨y,hy⟩:=hf f (by simp) d h'.2.2;have e1:=a0v h'.1;have e2:=a0v h'.2.1;rw[e1,e2,a1c (by omega)]at hy;exact⟨y,hy⟩
 |f::g::l,off,.p a b,h,hl,hf=>by simp only[qc,be,a0b,br,bz,a0o]at h;obtain⟨⟨h1,h2,h3⟩,h4⟩:=h;have e1:=a0v h1;have e2:=a0v h2;obtain⟨y,hy⟩:=hf f (by simp) a h3;simp only[T.size,avy]at hl;obtain⟨z,hz⟩:=br8 (g::l) (off+a.size) b h4 (by rw[a13]at hl⊢;omega) (fun f' hf'=>hf f' (by simp[a0t]at hf'⊢;exact .inr hf'));rw[e1,e2]at hy;refine⟨(y,z),?_⟩;simp only[aq];refine⟨_,_,?_,hy,hz⟩;rw[←a3l,a1x]
 |[],_,.int _,h,_,_|[],_,.bool,h,_,_|[],_,.str,h,_,_|[],_,.p _ _,h,_,_|[],_,.sl _,h,_,_|[],_,.pt _,h,_,_|[],_,.fn _ _,h,_,_|[],_,.any,h,_,_|_::_::_,_,.int _,h,_,_|_::_::_,_,.bool,h,_,_|_::_::_,_,.str,h,_,_|_::_::_,_,.u,h,_,_|_::_::_,_,.sl _,h,_,_|_::_::_,_,.pt _,h,_,_|_::_::_,_,.fn _ _,h,_,_|_::_::_,_,.any,h,_,_=>by simp[qc]at h
theorem axm{e:TypeId}:∀(l:List (DataW H)) (q:Nat->Bool),(DataW.weightsAll P e l).all q=true->∀d∈l,(d.weights P e).all q=true
 |[],q,_,d,hd=>by cases hd
 |x::l,q,h,d,hd=>by
  simp only[DataW.weightsAll,a43,a0b]at h;rcases a0t.1 hd with rfl|hd
  ·exact h.1
  ·exact axm l q h.2 d hd
theorem auq:∀(ts:List TypeId)(l:List (DataW H)) (q:Nat->Bool),(DataW.weightsEach P ts l).all q=true->∀(i:Nat) t d,ts[i]? = some t->l[i]? = some d->(d.weights P t).all q=true
 |[],_,q,_,i,t,d,ht,_=>by simp at ht
 |_::_,[],q,_,i,t,d,_,hd=>by simp at hd
 |t0::ts,x::l,q,h,i,t,d,ht,hd=>by
  simp only[DataW.weightsEach,a43,a0b]at h
  cases i with
  |zero=>simp at ht hd;subst ht;subst hd;exact h.1
  |succ i=>exact auq ts l q h.2 i t d (by simpa using ht) (by simpa using hd)
theorem cbf:∀(n:Nat)(t:TypeId)(d:T),ff P n t d=true->∀(fuel:Nat)(cs:List Value)(x:DataW H×List MemPlace),DataW.trod enc P w base spare held fuel t cs=some x->(x.1.weights P t).all (·<=reachBytes)=true->
  ∃y:d.den,aq (fun b=>b<w.heap.size) w d y cs:=by
 intro n
 induction n with
 |zero=>intro t d h;simp[ff]at h
 |succ n ih=>
  intro t d h fuel cs x hx hw;unfold ff at h;split at h
  ·rename_i k k' hu;have:=ac1 h;subst this;obtain⟨m,rfl,rfl,hwf⟩:=DataW.trod_int hu hx;exact⟨m,by simp only[aq,a0f];simpa[Lit.wf,inK]using hwf⟩
  ·rename_i hu;obtain⟨b,rfl,rfl⟩:=DataW.trod_bool hu hx;exact⟨b,by simp only[aq]⟩
  ·rename_i hu;obtain⟨s,rfl,rfl,hs⟩:=DataW.trod_string hu hx;have hsz:s.size<=reachBytes:=by simpa[DataW.weights]using hw
   exact⟨s,by simp only[aq,a0f];exact a0z hsz (by decide)⟩
  ·rename_i e d' hu;simp only[br,bz,a0o,a0b]at h;obtain⟨h1,h2,h3,h4⟩:=h;have e2:=a0v h2;rcases DataW.trod_slice hu hx with⟨rfl,rfl⟩|⟨a,len,cap,elems,rest,m,_,rfl,rfl,hb,hl,hm,hlen,hel,_,_⟩
   ·exact⟨[],by simp only[aq];exact⟨none,0,rfl,⟨a1j _,a0k _⟩,fun _=>⟨rfl,rfl⟩,fun a ha=>by cases ha⟩⟩
   ·have hpos:0<d'.size:=by
     cases hz:d'.size with
     |zero=>rw[hz]at h4;simp[isZ]at h4
     |succ _=>omega
    have hbpos:0<P.bytesOf e:=by
     cases hz:P.bytesOf e with
     |zero=>rw[hz]at h3;simp at h3
     |succ _=>omega
    simp only[DataW.weights,hu,a4i,a43,a0b,a0w,a00]at hw;obtain⟨w1,w2,w3⟩:=hw;have hnb:len<=nb:=by have h5:elems.length+rest.length<=(elems.length+rest.length)*P.bytesOf e:=a4x _ hbpos;simp only[reachBytes]at w1;unfold nb;omega
    have hall:∀i,i<len->∃y:d'.den,∃csi,w.cells? base (a.add (i*d'.size)) d'.size=some csi/\aq (fun b=>b<w.heap.size) w d' y csi:=fun i hi=>by have hq:=hel i hi;rw[e2]at hq;have hei:elems[i]? = some elems[i]:=a0p (by omega);rw[hei]at hq;obtain⟨csi,q1,q2⟩:=Option.bind_eq_some_iff.1 hq;obtain⟨y,hy⟩:=ih e d' h1 m csi _ q2 (axm _ _ w2 _ (List.mem_map_of_mem (a44 (by omega))));exact⟨y,csi,q1,hy⟩
    classical
    let f:Nat->d'.den:=fun i=>if hi:i<len then (hall i hi).choose else d'.dflt
    refine⟨(List.range len).map f,?_⟩;have hlen':((List.range len).map f).length=len:=by simp
    simp only[aq];refine⟨some a,cap,by rw[hlen'],⟨by rw[hlen'];exact hnb,by rw[hlen'];exact hl⟩,(fun h=>nomatch h),fun a' ha' hp=>?_⟩;cases ha';rw[hlen']at hp;obtain⟨y0,cs0,c1,c2⟩:=hall 0 hp;obtain⟨g1,g2,g3⟩:=World.cells?_some c1;have hc0:=g3 0 hpos;have hl0:0<cs0.length:=by omega
    rw[a0p hl0]at hc0;have hadd0:(a.add (0*d'.size)).add 0=a:=by rw[Nat.zero_mul];unfold Addr.add;simp
    rw[hadd0]at hc0
    have hspot:a.spot=none:=by
     unfold World.cell? at hc0;split at hc0
     ·split at hc0
      ·cases hc0
      ·rename_i hs;simpa using hs
     ·cases hc0
    have hblk:a.block<w.heap.size:=by
     unfold World.cell? at hc0;split at hc0
     ·rename_i hb;exact (a0x.1 hb).1
     ·cases hc0
    refine⟨hspot,hblk,fun i y hy=>?_⟩;rw[a1r]at hy;by_cases hi:i<len
    ·rw[a2p hi]at hy;simp only[a1e,a0e]at hy;have hf:f i=(hall i hi).choose:=by simp only[f,dif_pos hi]
     rw[hf]at hy;obtain⟨csi,q1,q2⟩:=(hall i hi).choose_spec;rw[hy]at q2;obtain⟨r1,r2,r3⟩:=World.cells?_some q1;refine⟨csi,fun j u hu'=>?_,q2⟩;have hj:j<d'.size:=by have:=(a1i.1 hu').1;omega
     have:=r3 j hj;obtain⟨b,o,sp⟩:=a;simp only at hspot;subst hspot;rw[a24,a24]at this;rw[this];exact hu'
    ·rw[a12 (by simpa using hi)]at hy;cases hy
  ·rename_i _ fs hu;simp only[be,a0b]at h;have e1:=a0v h.1;obtain⟨xs,m,_,rfl,hl,hxl,hf⟩:=DataW.trod_struct hu hx;simp only[DataW.weights,hu]at hw
   have:=br8 (w:=w) (Im:=fun b=>b<w.heap.size) (cs:=cs) fs.toList 0 _ h.2 (by simp only[List.drop_zero];omega) (fun f hfm d' hd'=>by
    obtain⟨i,hi,rfl⟩:=a2d hfm;have hfi:fs[i]? = some fs[i]:=by simp at hi;simp[hi]
    have hq:=hf i _ hfi;have hi':i<xs.length:=by simp at hi;omega
    rw[a0p hi']at hq;have hww:=auq _ _ _ hw i fs[i].type xs[i].1 (by simp at hi;simp[hi]) (by simp[hi']);simpa using ih _ d' (by simpa using hd') m _ _ hq hww)
   simpa only [List.drop_zero]using this
  ·cases h
end
end Go.Bm
/- The ff machine:what a statement asks of a law. -/
namespace Go.Bm
open Go.RowKit
def bxq(args:List T)(ga:List Bool):Ct:=⟨args,ga,fun _=>[],[(false,.fz .bool)],fun _=>(true,()),false,none⟩
theorem law_of_ct{P:Program}{f:FuncId}{args:List T}{ga:List Bool}(h:bw P f (bxq args ga)){vs:List Value}{w:World}{x:db args}(hE:uj P (fun b=>b<w.heap.size) w)(hr:mg (fun b=>b<w.heap.size) w ga args x vs) :
  Calls P f vs.toArray w fun e w'=>e=.returned (.bool true)/\Below w.heap.size w w':=
 (h.2 (fun b=>b<w.heap.size) w vs x hE (fun _ hb=>hb) hr trivial).mono fun e w' ⟨rs,S,he,hx,_,hres⟩=>by simp only[bxq,g9]at hres;obtain⟨u,us',us,S1,S2,rfl,_,g2,_,_,_,hrel,rfl⟩:=hres;have:=g2 trivial;subst this;simp only[Rel,aq,a0q,a0c]at hrel;subst hrel;exact⟨he,hx.os,hx.tape.t,hx.output,hx.size,fun k hk=>hx.old k hk⟩
end Go.Bm
/- The ff machine:what a function's law is made of:loops,tables of contracts,measures of data. -/
namespace Go.Bm
open Go.RowKit
def kh(f:Func):Code:=match f.body with|some c=>c|none=>.skip
def lkp:List (Nat×Ct)->FuncId->Option Ct
 |[],_=>none
 |(k,c)::r,f=>bif Nat.beq k f then some c else lkp r f
theorem az{P:Program}:uf P (lkp []):=fun f ct h=>by cases h
theorem ae{P:Program}{k:Nat}{c:Ct}{r:List (Nat×Ct)}(h:bw P k c)(hr:uf P (lkp r)):uf P (lkp ((k,c)::r)):=by
 intro f ct hf;simp only[lkp]at hf
 cases hb:Nat.beq k f with
 |true=>rw[hb]at hf;have:=a0v hb;subst this;cases hf;exact h
 |false=>rw[hb]at hf;exact hr f ct hf
def tq:List (Nat×Nat)->Nat->Nat
 |[],_=>0
 |(k,c)::r,f=>bif Nat.beq k f then c else tq r f
theorem bq{S:Type}{body:S->(S->Prop)->Prop}(R:S->Prop)(μ:S->Nat)
  (h:∀s next,R s->(∀s',R s'->μ s'<μ s->next s')->body s next) {s:S} (hs:R s):bn body s:=by
 have key:∀n s,R s->μ s<n->xw body n s:=by
  intro n
  induction n with
  |zero=>intro s _ h;omega
  |succ n ih=>intro s hs hn;exact h s _ hs fun s' hs' hl=>ih s' hs' (by omega)
 exact⟨μ s+1,key _ s hs (a3r _)⟩
theorem jc{n i0:Int}{body:(Int×Unit)×Unit->((Int×Unit)×Unit->Prop)->Prop}(P:Int->Prop)(hn:i0<=n)(h0:P i0)
  (hs:∀i next,i0<=i->i<n->P i->(P (i+1)->next ((i+1,()),()))->body ((i,()),()) next) (he:∀next,P n->body ((n,()),()) next):bn body ((i0,()),()):=by
 refine bq (fun s=>i0<=s.1.1/\s.1.1<=n/\P s.1.1) (fun s=>(n-s.1.1).toNat) ?_ ⟨a02 _,hn,h0⟩;rintro⟨⟨i,_⟩,_⟩ next ⟨h1,h2,h3⟩ hnx
 dsimp only at h1 h2 h3 hnx;by_cases e:i=n
 ·subst e;exact he next h3
 ·exact hs i next h1 (by omega) h3 fun h4=>hnx _ ⟨by dsimp only;omega,by dsimp only;omega,h4⟩ (by dsimp only;omega)
theorem bi8{α:Type}{x:α}{n i0:Int}{body:(Unit×(Int×Unit))×(α×Unit)->((Unit×(Int×Unit))×(α×Unit)->Prop)->Prop}(P:Int->Prop)(hn:i0<=n)(h0:P i0)
  (hs:∀i next,i0<=i->i<n->P i->(P (i+1)->next (((),(i+1,())),(x,())))->body (((),(i,())),(x,())) next) (he:∀next,P n->body (((),(n,())),(x,())) next):bn body (((),(i0,())),(x,())):=by
 refine bq (fun s=>s.2.1=x/\i0<=s.1.2.1/\s.1.2.1<=n/\P s.1.2.1) (fun s=>(n-s.1.2.1).toNat) ?_ ⟨rfl,a02 _,hn,h0⟩;rintro⟨⟨_,i,_⟩,y,_⟩ next ⟨hy,h1,h2,h3⟩ hnx
 dsimp only at hy h1 h2 h3 hnx;subst hy;by_cases e:i=n
 ·subst e;exact he next h3
 ·exact hs i next h1 (by omega) h3 fun h4=>hnx _ ⟨rfl,by dsimp only;omega,by dsimp only;omega,h4⟩ (by dsimp only;omega)
theorem aj2{α:Type}(l:List α)(d:α){i:Int}(h0:0<=i)(h1:i<l.length):l.drop i.toNat=l.getD i.toNat d::l.drop (i+1).toNat:=by
 have h:i.toNat<l.length:=by omega
 rw[a3y h,show (i+1).toNat=i.toNat+1 from by omega,a0l,a0p h];rfl
theorem al9{α:Type}(l:List α){i:Int}(h1:(l.length:Int)<=i):l.drop i.toNat=[]:=a4z (by omega)
theorem mm{α:Type}(l:List α)(d:α){i:Int}(h0:0<=i)(h1:i<l.length):l.take (i+1).toNat=l.take i.toNat++[l.getD i.toNat d]:=by
 have h:i.toNat<l.length:=by omega
 rw[show (i+1).toNat=i.toNat+1 from by omega,List.take_succ_eq_append_getElem h,a0l,a0p h];rfl
theorem acf{α:Type}(l:List α){i:Int}(h1:(l.length:Int)<=i):l.take i.toNat=l:=a1c (by omega)
theorem cp{α:Type}(l:List α)(d:α){i:Int}(h0:0<=i)(h1:i<l.length):l.getD i.toNat d∈l:=by
 have h:i.toNat<l.length:=by omega
 rw[a0l,a0p h];exact a44 h
theorem au{n:Int}:inK .i64 n<->-9223372036854775808<=n/\n<=9223372036854775807:=by simp[inK,IntKind.min,IntKind.max,IntKind.signed,IntKind.bits]
theorem eh:nb=140737488355328:=rfl
theorem ba{b:Bool}{x y:Prop}(h1:b=true->x)(h2:b=false->y):cnd b x y:=⟨h1,h2⟩
theorem bd{p:Prop}[Decidable p]{x y:Prop}(h1:p->x)(h2:¬p->y):cnd (decide p) x y:=⟨fun h=>h1 (a4a h),fun h=>h2 (of_decide_eq_false h)⟩
theorem cz{S:Type}{k:S->Prop}{f:(S->Prop)->Prop}(R:S->Prop)(hk:∀s,R s->k s)(hf:∀k',(∀s,R s->k' s)->f k'):dk k f:=hf k hk
theorem cdm {P : Program} {B : Tab} {Φ : FuncId -> Option Ct} (hΦ : uf P Φ) (hB : TabOk P B) (hmix : P.follows .mixedOrders = true) {f : FuncId} {fn : Func} {c : Code} (hf : P.funcs[f]? = some fn) (hb : fn.body = some c) (hn : (fn.name == "runtime.NumGoroutine") = false) (ct : Ct) (hmu : ct.mu = none) (A : Ann) (cut : Nat -> Nat)
  (hga:ct.ga=agL B fn) (hfl:orb ct.sh (af9 ct.rt)=true) (hck:okC fn.ntmps cut c=true) (hlen:ct.ga.length<=fn.ntmps)
  (W:db ct.args->(gq ct.rt->Prop)->Prop) (hw:∀x K,evF B Φ cut fn c A ct x K=W x K) (hm:∀x,ab (okL ct.args x)->ab (ct.pre x)->W x (fun r=>r=ct.res x)):bw P f ct:=
 cdh hΦ hB hmix hf hb hn ct hmu A cut hga hfl hck hlen fun x h1 h2=>(hw x _).mpr (hm x h1 h2)
end Go.Bm
/- The ff machine:an argument of a law,as it comes in. -/
namespace Go.Bm
open Go.RowKit Go.WideShapes
def bv5(P:Program)(t:TypeId):Bool:=match P.underlying t with|some (.struct _)=>true|_=>false
theorem open_arg{H:Type}{enc:TypeId×Value->H}{P:Program}{W:World}{base b1:Nat}{spare:Nat->Bool}{held:Bool}{t:TypeId}{v:Value}{dd:DataW H}{ps:List MemPlace}(n:Nat)(d:T)(g:Bool)
  (hty:ff P n t d=true) (hg:bv5 P t=g) (hv:Value.okWide P W .any b1 t v) (hk:DataW.Trod enc P W base spare held t v dd ps) (hw:(dd.weights P t).all (·<=reachBytes)=true) :
  ∃(y:d.den)(vs:List Value),(g=true->v=.agg vs.toArray)/\(g=false->vs=[v])/\aq (fun b=>b<W.heap.size) W d y vs:=by
 obtain⟨fuel,hf⟩:=hk;obtain⟨y,hy⟩:=cbf n t d hty fuel _ _ hf hw;refine⟨y,v.cells.toList,fun h=>?_,fun h=>?_,hy⟩
 ·subst hg;simp only[bv5]at h;split at h
  ·rename_i fs hu;obtain⟨cs,rfl,_⟩:=okWide_struct hu hv;simp[Value.cells]
  ·cases h
 ·subst hg
  cases n with
  |zero=>simp[ff]at hty
  |succ n=>
   unfold ff at hty;split at hty
   ·rename_i k k' hu;obtain⟨m,rfl⟩:=okWide_int hu hv;rfl
   ·rename_i hu;obtain⟨m,rfl⟩:=okWide_bool hu hv;rfl
   ·rename_i hu;obtain⟨m,rfl⟩:=okWide_string hu hv;rfl
   ·rename_i e d' hu;obtain⟨a,l,c,rfl⟩:=okWide_slice hu hv;rfl
   ·rename_i fs hu;simp[bv5,hu]at h
   ·cases hty
end Go.Bm
/- The ff machine:a function that writes what it is handed. -/
namespace Go.Bm
open Go.RowKit
section
variable {w:World}
structure Inn (w:World) (j j':Nat) (N:Mem) (v:V) (vs:List Value) (S:Nat->Prop) (β:Nat->Value) (σ:Nat->Nat->Prop):Prop where
 le:j<=j'
 keys:∀k,c6 N k->∃i,j<=i/\i<j'/\k=cid 9000 i
 objs:∀(Im:Nat->Prop) k ob,go N k=some ob->Rel Im w ob.o ob.x (σ k) [β k]
 sub:∀k b,c6 N k->σ k b->S b
 dis:∀k k' b,k≠k'->c6 N k->c6 N k'->σ k b->¬σ k' b
 val:∀(Im:Nat->Prop)(β':Nat->Value)(M':Mem),(∀k,c6 N k->β' k=β k/\go M' k=go N k)->ak β' M' Im w v vs
variable {P:Program} {B:Tab} {Φ:FuncId->Option Ct}
end
end Go.Bm
/- The ff machine:a function that writes what lies in the box that it is handed. -/
namespace Go.Bm
open Go.RowKit
def vr(W:Wt):Ct:=⟨[],[],fun _=>[],[],fun _=>(),false,some (.w W)⟩
theorem tv{α:Type}(u:α):∀(i:Nat)(l:List α),(gw i u l).length=l.length+1
 |0,l|i+1,[]=>rfl
 |i+1,x::l=>by simp only[gw,a0h];rw[tv u i l]
theorem ac7{α:Type}(u:α):∀(i:Nat)(l:List α),i<=l.length->∀t,(gw i u l)[t]? = if t<i then l[t]? else if t=i then some u else l[t-1]?
 |0,l,_,0|0,l,_,t+1=>by simp[gw]
 |i+1,[],h,_=>by simp at h
 |i+1,x::l,h,0=>by simp[gw]
 |i+1,x::l,h,t+1=>by
  simp only[gw,a2i];rw[ac7 u i l (by simpa using h) t];rcases Nat.lt_trichotomy t i with h1|h1|h1
  ·rw[a0a h1,a0a (Nat.succ_lt_succ h1)]
  ·rw[ds (by omega),a0a h1,ds (by omega),a0a (by omega)]
  ·rw[ds (by omega),ds (by omega),ds (by omega),ds (by omega)];obtain⟨s,rfl⟩:∃s,t=s+1:=⟨t-1,by omega⟩;simp
theorem at8{f:TypeId->Bool}:∀(i:Nat)(ag:List Bool)(ps:List TypeId)(n:Nat),i<=ag.length->gw i false ag=ap (ps.map f) (aae false n)->∃m,ag=ap ((ru i ps).map f) (aae false m)
 |0,ag,[],0,_,h=>by simp[gw,ap,aae]at h
 |0,ag,[],n+1,_,h=>by simp only[gw,a4e,ap,aae,a0q,a0f]at h;exact⟨n,by simpa[ru,pkN,ap]using h⟩
 |0,ag,q::qs,n,_,h=>by simp only[gw,a2h,ap,a0q]at h;exact⟨n,by simpa[ru,pkN]using h.2⟩
 |i+1,[],_,_,hi,_=>by simp at hi
 |i+1,b::ag,[],0,_,h=>by simp[gw,ap,aae]at h
 |i+1,b::ag,[],n+1,hi,h=>by simp only[gw,a4e,ap,aae,a0q]at h;obtain⟨m,e⟩:=at8 (f:=f) i ag [] n (by simpa using hi) (by simpa[ap]using h.2);refine⟨m+1,?_⟩;rw[h.1,e];cases i<;>simp[ru,pkN,ap,aae]
 |i+1,b::ag,q::qs,n,hi,h=>by
  simp only[gw,a2h,ap,a0q]at h;obtain⟨m,e⟩:=at8 i ag qs n (by simpa using hi) h.2;refine⟨m,?_⟩;rw[h.1,e];unfold ru;simp only[pkN]
  cases pkN i qs with
  |none|some q=>simp[ap]
def abv:O->Nat->V
 |.pt _,k=>.ad k [.de]
 |_,k=>.ref k []
def anx(B:Tab)(env:Env)(M:Mem):List ResultVar->(rs:List (Bool×O))->Option (gq rs×List Ev×Mem)
 |[],[]=>some ((),[],M)
 |r::rs,q::qs=>(match bdk B env M r with
  |some v=>bif od (oz q.1 v)then (match bra M q.2 (oz q.1 v)with
   |some (x,e,M')=>(match anx B (p8 env e) M' rs qs with
    |some (y,e',M'')=>some ((x,y),ap e e',M'')
    |none=>none)
   |none=>none)else none
  |none=>none)
 |_,_=>none
def aol(B:Tab)(rs:List ResultVar)(W:Wt)(K:W.o.strip.den->gq W.rt->Prop)(env:Env)(M:Mem):Prop:=
 match anx B env M rs W.rt with
 |some (r,e,M')=>(match ai3 ((gt env W.i).evs e)with
  |some k=>(match go M' k with
   |some ob=>(match wkO ob W.o with
    |some z=>K z r
    |none=>False)
   |none=>False)
  |none=>False)
 |none=>False
def bfj(B:Tab)(rs:List ResultVar)(W:Wt)(K:W.o.strip.den->gq W.rt->Prop):Ex->Env->Mem->Prop
 |.ex _,_,_|.go _,_,_=>False
 |.nm,env,M|.rt,env,M=>aol B rs W K env M
def aps(B:Tab)(Φ:FuncId->Option Ct)(cut:Nat->Nat)(fn:Func)(c:Code)(A:Ann)(W:Wt)(x:W.o.strip.den)(y:db W.as)(K:W.o.strip.den->gq W.rt->Prop):Prop:=ev B Φ cut c A (bfj B (toL fn.results) W K) (acj 0 (gw W.i (abv W.o (cid 9000 0)) (l7 B (ru W.i (toL fn.params)) W.as y))) [(cid 9000 0,⟨W.o,x⟩)]
section
variable {F:Fr} {a:Act} {w:World} {P:Program} {B:Tab} {Φ:FuncId->Option Ct}
theorem aq6(hB:TabOk P B):(rs:List ResultVar)->(qs:List (Bool×O))->(p:Ow)->(env:Env)->(M:Mem)->(y:gq qs)->(e:List Ev)->(M':Mem)->Hp F p M w->(∀t,ao p.β M (Imm F p M w) w (gt env t) (a.tmps.getD t undef))->anx B env M rs qs=some (y,e,M')->
  ∃us p',∃S:Nat->Prop,(rs.mapM (bj8 a.tmps)).run P w=.ok us w/\Tr F p M w e p' M' w/\(∀b,p.L b->p'.L b)/\(∀b,S b->p'.L b)/\(∀b,S b->¬p.L b)/\g9 (Imm F p' M' w) w qs y S us
 |[],[],p,env,M,y,e,M',hp,hs,h=>by simp only[anx,a0e,a0n]at h;obtain⟨_,rfl,rfl⟩:=h;exact⟨[],p,fun _=>False,rfl,Tr.refl hp,fun b hb=>hb,fun b hb=>hb.elim,fun b hb=>hb.elim,by simp only[g9]⟩
 |[],_::_,p,env,M,y,e,M',hp,hs,h|_::_,[],p,env,M,y,e,M',hp,hs,h=>by simp[anx]at h
 |r::rs,q::qs,p,env,M,y,e,M',hp,hs,h=>by
  simp only[anx]at h;split at h
  ·rename_i v hv
   cases hc:od (oz q.1 v)with
   |false=>rw[hc]at h;cases h
   |true=>
    rw[hc]at h;simp only[a0d]at h;split at h
    ·rename_i x e1 M1 ho;split at h
     ·rename_i z e2 M2 hz;cases h;obtain⟨u,u1,u2⟩:=bcz (P:=P) (a:=a) hB hp hs r v hv;obtain⟨vs,g1,g2,g3⟩:=boc hp u2 hc;obtain⟨p1,S,t1,t2,t3,t4⟩:=bm0 hp q.2 (oz q.1 v) vs x e1 g3 ho;obtain⟨us,p2,S2,k1,k3,k4,k5,k6,k7⟩:=aq6 hB rs qs p1 (p8 env e1) M1 z e2 M' t1.hp (fun t=>by rw[uu];exact t1.s _ _ (hs t)) hz;refine⟨u::us,p2,fun b=>S b\/S2 b,?_,t1.trans k3,fun b hb=>k4 b ((t2 b).2 (.inl hb)),fun b hb=>hb.elim (fun h=>k4 b ((t2 b).2 (.inr h))) (k5 b),fun b hb=>hb.elim (t3 b) (fun h hL=>k6 b h ((t2 b).2 (.inl hL))),?_⟩
      ·simp only[a4u,a1q,u1,a14,k1,a2l]
      ·simp only[g9];exact⟨u,us,vs,S,S2,rfl,g1,g2,fun b hb=>.inl hb,fun b hb=>.inr hb,fun b hb hb'=>k6 b hb' ((t2 b).2 (.inr hb)),Rel.keep k3.keep _ _ _ _ (fun _ _=>rfl) t4,k7⟩
     ·cases h
    ·cases h
  ·cases h
theorem wt_q (hΦ : uf P Φ) (hB : TabOk P B) (hmix : P.follows .mixedOrders = true) {f : FuncId} {fn : Func} {c : Code} (hf : P.funcs[f]? = some fn) (hb : fn.body = some c) (hn : (fn.name == "runtime.NumGoroutine") = false) (W : Wt) (pr : W.o.strip.den -> db W.as -> Prop) (Q : W.o.strip.den -> db W.as -> W.o.strip.den -> gq W.rt -> Prop) (A : Ann) (cut : Nat -> Nat)
  (hro:abw W.o=true) (hi:W.i<=W.ag.length) (hga:gw W.i false W.ag=agL B fn) (hck:okC fn.ntmps cut c=true) (hlen:W.ag.length+1<=fn.ntmps) (hnw:noW [W.i] c=true)
  (h:∀x y,ab (W.o.strip.oks x)->ab (okL W.as y)->pr x y->aps B Φ cut fn c A W x y (Q x y)) :
  ∀(A:Nat->Prop)(w:World)(u:Value)(x:W.o.strip.den)(us:List Value)(y:db W.as)(S:Nat->Prop),uj P A w->(∀b,A b->b<w.heap.size)->(∀b,S b->b<w.heap.size/\¬A b)->
  Rel (fun b=>A b) w W.o x S [u]->mg A w W.ag W.as y us->pr x y->
  Calls P f (gw W.i u us).toArray w fun e w'=>∃z r rs R S',Q x y z r/\e=.returned (ot rs)/\ExtS w w' S/\(∀b,R b->w.heap.size<=b/\b<w'.heap.size)/\(∀b,S' b->(S b\/w.heap.size<=b/\b<w'.heap.size)/\¬R b)/\
   Rel (fun b=>b<w'.heap.size/\(A b\/S b\/w.heap.size<=b)/\¬S' b/\¬R b) w' W.o z S' [u]/\
   g9 (fun b=>b<w'.heap.size/\(A b\/S b\/w.heap.size<=b)/\¬S' b/\¬R b) w' W.rt r R rs:=by
 intro Ab w u x us y S hE hAlt hSlt hr hargs hpre;let a0:Act:={ tmps:=(gw W.i u us).toArray++Array.replicate (fn.ntmps-(gw W.i u us).toArray.size) undef,defers:=[] }
 have hoks:ab (W.o.strip.oks x):=by have h1:=Rel.frz (Im':=fun _=>True) (fun _ _=>trivial) W.o x S [u] (fun _ _=>trivial) hr;have h2:=me _ _ (aq.ok _ _ _ h1);exact h2
 let F:Fr:=⟨w,w,Ab,S,fun _=>False,fn.ntmps,ad9 (fun _=>none) [W.i] a0,False⟩
 let p0:Ow:=⟨fun _=>u,fun _=>S,fun _=>False⟩
 have hkk:gid=cid 9000 0:=by decide
 replace h:=fun h1 h2=>h x y h1 h2 hpre;unfold aps at h;generalize cid 9000 0=kk at hkk h;generalize hM0:([(kk,⟨W.o,x⟩)]:Mem)=M0;have hg0:go M0 kk=some ⟨W.o,x⟩:=by rw[←hM0,dn,a0a rfl]
 have hlive:∀k,c6 M0 k->k=kk:=fun k hk=>by
  unfold c6 at hk;rw[←hM0,dn]at hk;split at hk
  ·rename_i e;exact e.symm
  ·simp[go]at hk
 have himm:∀b,Ab b->Imm F p0 M0 w b:=fun b hb=>⟨hAlt b hb,.inl hb,fun h=>h,fun k hk hs=>(hSlt b hs).2 hb⟩;obtain⟨m,e⟩:=at8 W.i W.ag (toL fn.params) fn.nfree hi hga;obtain⟨l1,l2,l3,l4⟩:=ae2 (B:=B) (β:=p0.β) (M:=M0) himm W.ag W.as y us hargs (ru W.i (toL fn.params)) m e;have he:=h hoks l3;rw[hM0]at he;have hsz:a0.tmps.size=fn.ntmps:=by simp[a0,tv];omega
 have hget:∀t,t<(gw W.i u us).length->a0.tmps.getD t undef=(gw W.i u us).getD t undef:=fun t ht=>by simp only[a0];rw[a3v,a3u (by simpa using ht)];simp[a0l]
 have hrel0:Rel (Imm F p0 M0 w) w W.o x S [u]:=Rel.keep (fun b hb=>⟨himm b hb,rfl⟩) _ _ _ _ (fun _ _=>rfl) hr
 have hp0:Hp F p0 M0 w:=⟨fun k ob hk=>by have:=hlive k (cq hk);subst this;rw[hg0]at hk;cases hk;exact hrel0,fun k k' b hne hk hk'=>absurd ((hlive k hk).trans (hlive k' hk').symm) hne,
  fun k b hk hs=>⟨(hSlt b hs).1,.inl ⟨by rw[hlive k hk,hkk];exact a0k _,hs⟩⟩,fun b hb=>hb.elim,rfl,⟨rfl,a0k _⟩,rfl,a0k _,fun b _ _=>rfl⟩
 have hst:St F p0 (acj 0 (gw W.i (abv W.o kk) (l7 B (ru W.i (toL fn.params)) W.as y))) M0 a0 w:=by
  refine⟨rfl,hsz,fun t v ht=>?_,fun b hb=>hb.elim,fun b hb=>hb,fun t=>?_,hp0⟩
  ·simp only[F,ad9]at ht
   cases hm:x7 t [W.i]with
   |true=>rw[hm]at ht;simpa using ht
   |false=>rw[hm]at ht;cases ht
  ·rw[alx];simp only[a1j,a04,a3t];have hil:W.i<=us.length:=by omega
   have hil2:W.i<=(l7 B (ru W.i (toL fn.params)) W.as y).length:=by omega
   have hgu:∀t,(gw W.i u us).getD t undef=if t<W.i then us.getD t undef else if t=W.i then u else us.getD (t-1) undef:=fun t=>by
    rw[a0l,ac7 u W.i us hil t];split
    ·rw[a0l]
    ·split
     ·rfl
     ·rw[a0l]
   have hoth:∀t s,s<us.length->t<(gw W.i u us).length->(gw W.i u us).getD t undef=us.getD s undef->∀v,(l7 B (ru W.i (toL fn.params)) W.as y)[s]? = some v->ao p0.β M0 (Imm F p0 M0 w) w v (a0.tmps.getD t undef):=fun t s hs ht he v hx=>by
    have hu:us[s]? = some us[s]:=a0p hs;rw[hget t ht,he];have:us.getD s undef=us[s]:=by simp[a0l,hu]
    rw[this];exact l4 s v _ hx hu
   have hlen2:(l7 B (ru W.i (toL fn.params)) W.as y).length=us.length:=by omega
   rw[ac7 _ W.i _ hil2 t];by_cases h1:t<W.i
   ·rw[a0a h1]
    cases hx:(l7 B (ru W.i (toL fn.params)) W.as y)[t]? with
    |none=>simp only[a2w,ao]
    |some v=>have ht:=(a1i.1 hx).1;simp only[a1n];exact hoth t t (by omega) (by rw[tv];omega) (by rw[hgu,a0a h1]) v hx
   rw[ds h1];by_cases h2:t=W.i
   ·subst h2;rw[a0a rfl,hget W.i (by rw[tv];omega),hgu,ds (a2x _),a0a rfl];simp only[a1n]
    have key:∀(o:O)(z:o.strip.den),abw o=true->go M0 kk=some ⟨o,z⟩->Rel (Imm F p0 M0 w) w o z S [u]->ao p0.β M0 (Imm F p0 M0 w) w (abv o kk) u:=fun o z ho hgo hrl=>by
     cases o with
     |pt o1=>simp only[abv,ao,ak];refine⟨u,rfl,?_⟩;simp only[Rel]at hrl;obtain⟨bb,us1,ty',S1,r1,_⟩:=hrl;simp only[a0q,a0c]at r1;exact⟨_,cellsOf w bb 0 o1.size,bb,0,hgo,by simp only[gok],by simp only[get];exact⟨_,rfl⟩,by simp only[dp],by simp only[p0,r1,res],r1⟩
     |sl e=>simp only[abv,ao,ak];exact⟨_,none,hgo,by simp only[gok],⟨_,by simp only[get];rfl⟩,by simp only[res,p0]⟩
     |fz t|p a b|mp e e'|op e=>cases ho
    exact key W.o x hro hg0 hrel0
   ·rw[ds h2]
    cases hx:(l7 B (ru W.i (toL fn.params)) W.as y)[t-1]? with
    |none=>simp only[a2w,ao]
    |some v=>have ht:=(a1i.1 hx).1;simp only[a1n];exact hoth t (t-1) (by omega) (by rw[tv];omega) (by rw[hgu,ds h1,ds h2]) v hx
 refine a4f hf hb (a2u (fun e a' w' he=>?_) (aad hΦ hB hmix cut c F (hE.of fun b hb _=>⟨⟨hb,fun hs=>(hSlt b hs).2 hb⟩,rfl⟩) A _ _ _ hck (tn c hnw (q9 c)) he p0 _ w hst))
 have key:∀p env M,St F p env M a' w'->aol B (toL fn.results) W (Q x y) env M->(e=.normal\/e=.ret)->bodyPost P fn (fun e w'=>∃z r rs R S',Q x y z r/\e=.returned (ot rs)/\ExtS w w' S/\(∀b,R b->w.heap.size<=b/\b<w'.heap.size)/\(∀b,S' b->(S b\/w.heap.size<=b/\b<w'.heap.size)/\¬R b)/\
   Rel (fun b=>b<w'.heap.size/\(Ab b\/S b\/w.heap.size<=b)/\¬S' b/\¬R b) w' W.o z S' [u]/\
   g9 (fun b=>b<w'.heap.size/\(Ab b\/S b\/w.heap.size<=b)/\¬S' b/\¬R b) w' W.rt r R rs) e a' w':=by
  intro p env M hs hr hee;unfold aol at hr;split at hr
  ·rename_i r e1 M1 hres;split at hr
   ·rename_i k hroot;split at hr
    ·rename_i ob hob;split at hr
     ·rename_i z hz;obtain⟨rs,p',R,k1,t,k4,k5,k6,k7⟩:=aq6 (P:=P) (a:=a') hB (toL fn.results) W.rt p env M _ e1 M1 hs.hp hs.slots hres;rw[ew]at k1
      have hrun:(results fn a'.tmps).run P w'=.ok (ot rs) w':=by
       rw[ag9,a4g];simp only[a1q,a4h,k1,a14,a2l]
       match rs with
       |[]|[u]=>rfl
       |u::u'::r=>simp[ot]
      have hu0:a'.tmps.getD W.i undef=u:=by have:=hs.fix W.i (a0.tmps.getD W.i undef) (by simp[F,ad9,x7]);rw[this,hget W.i (by rw[tv];omega),a0l,ac7 u W.i us (by omega),ds (a2x _),a0a rfl];rfl
      have hs0:=t.s _ _ (hs.slots W.i);rw[hu0]at hs0;obtain⟨w1,w2⟩:=afn hz;have hrk:=t.hp.objs k _ hob;have hbox:u=p'.β k:=am9 t.hp hob hroot (e:=[]) rfl hs0;rw[←hbox]at hrk;obtain⟨S',s1,s2⟩:=acg ob.o W.o w1 ob.x _ (p'.σ k) [u] w2 hrk;have hlk:=cq hob;have hRl:∀b,R b->w.heap.size<=b/\b<w'.heap.size:=fun b hb=>⟨(t.hp.lim b (k5 b hb)).2.1.elim id (fun h=>h.1.elim),(t.hp.lim b (k5 b hb)).1⟩;have hSR:∀b,p'.σ k b->¬R b:=fun b hb hR=>(t.hp.lim b (k5 b hR)).2.2 k hlk hb;have hIm:∀b,Imm F p' M1 w' b->(b<w'.heap.size/\(Ab b\/S b\/w.heap.size<=b)/\¬S' b/\¬R b):=fun b hb=>⟨hb.1,hb.2.1,fun h=>hb.2.2.2 k hlk (s1 b h),fun h=>hb.2.2.1 (k5 b h)⟩
      have hpost:∃z r rs' R S',Q x y z r/\Ending.returned (ot rs)=.returned (ot rs')/\ExtS w w' S/\(∀b,R b->w.heap.size<=b/\b<w'.heap.size)/\(∀b,S' b->(S b\/w.heap.size<=b/\b<w'.heap.size)/\¬R b)/\
        Rel (fun b=>b<w'.heap.size/\(Ab b\/S b\/w.heap.size<=b)/\¬S' b/\¬R b) w' W.o z S' [u]/\
        g9 (fun b=>b<w'.heap.size/\(Ab b\/S b\/w.heap.size<=b)/\¬S' b/\¬R b) w' W.rt r R rs':=by
       refine⟨z,r,rs,R,S',hr,rfl,⟨t.hp.os,t.hp.tape,t.hp.output,t.hp.size,fun b hb hn=>t.hp.old b hb hn⟩,hRl,fun b hb=>⟨?_,hSR b (s1 b hb)⟩,s2 _ hIm (fun b hb hnb=>?_),g9.keep hIm _ _ _ _ k7⟩
       ·have:=t.hp.own k b hlk (s1 b hb);rcases this.2 with⟨_,h1⟩|h1
        ·exact .inl h1
        ·exact h1.elim (fun h1=>.inr ⟨h1,this.1⟩) (fun h1=>h1.1.elim)
       ·have:=t.hp.own k b hlk hb;refine⟨this.1,?_,hnb,hSR b hb⟩;rcases this.2 with⟨_,h1⟩|h1
        ·exact .inr (.inl h1)
        ·exact h1.elim (fun h1=>.inr (.inr h1)) (fun h1=>h1.1.elim)
      rcases hee with rfl|rfl
      ·exact⟨hs.defers,_,hrun,hpost⟩
      ·exact⟨hs.defers,_,hrun,hpost⟩
     ·exact hr.elim
    ·exact hr.elim
   ·exact hr.elim
  ·exact hr.elim
 cases e with
 |normal=>obtain⟨p,env,M,h1,h2⟩:=he;exact key p env M h1 h2 (.inl rfl)
 |ret=>obtain⟨p,env,M,h1,h2⟩:=he;exact key p env M h1 h2 (.inr rfl)
 |exit id|goto l=>obtain⟨p,env,M,h1,h2⟩:=he;exact h2.elim
 |panic ch|outgrown=>exact he.elim
theorem cdw (hΦ : uf P Φ) (hB : TabOk P B) (hmix : P.follows .mixedOrders = true) {f : FuncId} {fn : Func} {c : Code} (hf : P.funcs[f]? = some fn) (hb : fn.body = some c) (hn : (fn.name == "runtime.NumGoroutine") = false) (W : Wt) (A : Ann) (cut : Nat -> Nat)
  (hro:abw W.o=true) (hi:W.i<=W.ag.length) (hga:gw W.i false W.ag=agL B fn) (hck:okC fn.ntmps cut c=true) (hlen:W.ag.length+1<=fn.ntmps) (hnw:noW [W.i] c=true)
  (h:∀x y,ab (W.o.strip.oks x)->ab (okL W.as y)->ab (W.pre x y)->aps B Φ cut fn c A W x y (fun z r=>z=W.new x y/\r=W.res x y)):bw P f (vr W):=by
 refine⟨t6 hf hb hn,fun Ab w u x us y S hE hAlt hSlt hr hargs hpre cs=>?_⟩;obtain⟨e,w',fr,⟨z,r,rs,R,S',hq,h1⟩,h2⟩ :=wt_q hΦ hB hmix hf hb hn W (fun x y=>ab (W.pre x y)) (fun x y z r=>z=W.new x y/\r=W.res x y) A cut hro hi hga hck hlen hnw h Ab w u x us y S hE hAlt hSlt hr hargs hpre cs;obtain⟨rfl,rfl⟩:=hq;exact⟨e,w',fr,⟨rs,R,S',h1⟩,h2⟩
end
theorem cbi{P:Program}{f:FuncId}{W:Wt}{q:Nat->W.o.strip.den->db W.as->List Prop}(hc:ahw P f)(h0:∀x y,¬ab (q 0 x y))(hp:∀x y,ab (W.pre x y)->∃n,ab (q n x y))
  (hs:∀n,bw P f (vr ⟨W.o,W.as,W.ag,q n,W.new,W.rt,W.res,W.i⟩)->bw P f (vr ⟨W.o,W.as,W.ag,q (n+1),W.new,W.rt,W.res,W.i⟩)):bw P f (vr W):=by
 have key:∀n,bw P f (vr ⟨W.o,W.as,W.ag,q n,W.new,W.rt,W.res,W.i⟩):=by
  intro n
  induction n with
  |zero=>exact⟨hc,fun A w u x us y S _ _ _ _ _ h=>absurd h (h0 x y)⟩
  |succ n ih=>exact hs n ih
 refine⟨hc,fun A w u x us y S z a b c d h=>?_⟩;obtain⟨n,hn⟩:=hp x y h;exact (key n).2 A w u x us y S z a b c d hn
end Go.Bm
/- The ff machine:a function that uses up an own list that it is handed. -/
namespace Go.Bm
open Go.RowKit
def asg(W:Wu):Ct:=⟨[],[],fun _=>[],[],fun _=>(),false,some (.k W)⟩
def bhp(B:Tab)(rs:List ResultVar)(W:Wu)(K:gq W.rt->Prop)(env:Env)(M:Mem):Prop:=
 match anx B env M rs W.rt with
 |some (r,_,_)=>K r
 |none=>False
def endU(B:Tab)(rs:List ResultVar)(W:Wu)(K:gq W.rt->Prop):Ex->Env->Mem->Prop
 |.ex _,_,_|.go _,_,_=>False
 |.nm,env,M|.rt,env,M=>bhp B rs W K env M
def bly(B:Tab)(Φ:FuncId->Option Ct)(cut:Nat->Nat)(fn:Func)(c:Code)(A:Ann)(W:Wu)(x:W.o.strip.den)(y:db W.as)(K:gq W.rt->Prop):Prop:=ev B Φ cut c A (endU B (toL fn.results) W K) (acj 0 (gw W.i (abv W.o (cid 8999 0)) (l7 B (ru W.i (toL fn.params)) W.as y))) [(cid 8999 0,⟨W.o,x⟩)]
section
variable {F:Fr} {a:Act} {w:World} {P:Program} {B:Tab} {Φ:FuncId->Option Ct}
theorem wu_q (hΦ : uf P Φ) (hB : TabOk P B) (hmix : P.follows .mixedOrders = true) {f : FuncId} {fn : Func} {c : Code} (hf : P.funcs[f]? = some fn) (hb : fn.body = some c) (hn : (fn.name == "runtime.NumGoroutine") = false) (W : Wu) (pr : W.o.strip.den -> db W.as -> Prop) (Q : W.o.strip.den -> db W.as -> gq W.rt -> Prop) (A : Ann) (cut : Nat -> Nat)
  (hro:slO W.o=true) (hi:W.i<=W.ag.length) (hga:gw W.i false W.ag=agL B fn) (hck:okC fn.ntmps cut c=true) (hlen:W.ag.length+1<=fn.ntmps)
  (h:∀x y,ab (W.o.strip.oks x)->ab (okL W.as y)->pr x y->bly B Φ cut fn c A W x y (Q x y)) :
  ∀(A:Nat->Prop)(w:World)(u:Value)(x:W.o.strip.den)(us:List Value)(y:db W.as)(S:Nat->Prop),uj P A w->(∀b,A b->b<w.heap.size)->(∀b,S b->b<w.heap.size/\¬A b)->
  Rel (fun b=>A b) w W.o x S [u]->mg A w W.ag W.as y us->pr x y->
  Calls P f (gw W.i u us).toArray w fun e w'=>∃r rs R,Q x y r/\e=.returned (ot rs)/\ExtS w w' S/\(∀b,R b->b<w'.heap.size/\(S b\/w.heap.size<=b))/\
   g9 (fun b=>b<w'.heap.size/\(A b\/S b\/w.heap.size<=b)/\¬R b) w' W.rt r R rs:=by
 intro Ab w u x us y S hE hAlt hSlt hr hargs hpre;let a0:Act:={ tmps:=(gw W.i u us).toArray++Array.replicate (fn.ntmps-(gw W.i u us).toArray.size) undef,defers:=[] }
 have hoks:ab (W.o.strip.oks x):=by have h1:=Rel.frz (Im':=fun _=>True) (fun _ _=>trivial) W.o x S [u] (fun _ _=>trivial) hr;have h2:=me _ _ (aq.ok _ _ _ h1);exact h2
 let F:Fr:=⟨w,w,Ab,S,fun _=>False,fn.ntmps,fun _=>none,True⟩
 let p0:Ow:=⟨fun _=>u,fun _=>S,fun _=>False⟩
 replace h:=fun h1 h2=>h x y h1 h2 hpre;unfold bly at h;generalize cid 8999 0=kk at h;generalize hM0:([(kk,⟨W.o,x⟩)]:Mem)=M0;have hg0:go M0 kk=some ⟨W.o,x⟩:=by rw[←hM0,dn,a0a rfl]
 have hlive:∀k,c6 M0 k->k=kk:=fun k hk=>by
  unfold c6 at hk;rw[←hM0,dn]at hk;split at hk
  ·rename_i e;exact e.symm
  ·simp[go]at hk
 have himm:∀b,Ab b->Imm F p0 M0 w b:=fun b hb=>⟨hAlt b hb,.inl hb,fun h=>h,fun k hk hs=>(hSlt b hs).2 hb⟩;obtain⟨m,e⟩:=at8 W.i W.ag (toL fn.params) fn.nfree hi hga;obtain⟨l1,l2,l3,l4⟩:=ae2 (B:=B) (β:=p0.β) (M:=M0) himm W.ag W.as y us hargs (ru W.i (toL fn.params)) m e;have he:=h hoks l3;rw[hM0]at he;have hsz:a0.tmps.size=fn.ntmps:=by simp[a0,tv];omega
 have hget:∀t,t<(gw W.i u us).length->a0.tmps.getD t undef=(gw W.i u us).getD t undef:=fun t ht=>by simp only[a0];rw[a3v,a3u (by simpa using ht)];simp[a0l]
 have hrel0:Rel (Imm F p0 M0 w) w W.o x S [u]:=Rel.keep (fun b hb=>⟨himm b hb,rfl⟩) _ _ _ _ (fun _ _=>rfl) hr
 have hp0:Hp F p0 M0 w:=⟨fun k ob hk=>by have:=hlive k (cq hk);subst this;rw[hg0]at hk;cases hk;exact hrel0,fun k k' b hne hk hk'=>absurd ((hlive k hk).trans (hlive k' hk').symm) hne,
  fun k b hk hs=>⟨(hSlt b hs).1,.inr (.inr ⟨trivial,hs⟩)⟩,fun b hb=>hb.elim,rfl,⟨rfl,a0k _⟩,rfl,a0k _,fun b _ _=>rfl⟩
 have hst:St F p0 (acj 0 (gw W.i (abv W.o kk) (l7 B (ru W.i (toL fn.params)) W.as y))) M0 a0 w:=by
  refine⟨rfl,hsz,fun t v ht=>?_,fun b hb=>hb.elim,fun b hb=>hb,fun t=>?_,hp0⟩
  ·simp only[F]at ht;cases ht
  ·rw[alx];simp only[a1j,a04,a3t];have hil:W.i<=us.length:=by omega
   have hil2:W.i<=(l7 B (ru W.i (toL fn.params)) W.as y).length:=by omega
   have hgu:∀t,(gw W.i u us).getD t undef=if t<W.i then us.getD t undef else if t=W.i then u else us.getD (t-1) undef:=fun t=>by
    rw[a0l,ac7 u W.i us hil t];split
    ·rw[a0l]
    ·split
     ·rfl
     ·rw[a0l]
   have hoth:∀t s,s<us.length->t<(gw W.i u us).length->(gw W.i u us).getD t undef=us.getD s undef->∀v,(l7 B (ru W.i (toL fn.params)) W.as y)[s]? = some v->ao p0.β M0 (Imm F p0 M0 w) w v (a0.tmps.getD t undef):=fun t s hs ht he v hx=>by
    have hu:us[s]? = some us[s]:=a0p hs;rw[hget t ht,he];have:us.getD s undef=us[s]:=by simp[a0l,hu]
    rw[this];exact l4 s v _ hx hu
   have hlen2:(l7 B (ru W.i (toL fn.params)) W.as y).length=us.length:=by omega
   rw[ac7 _ W.i _ hil2 t];by_cases h1:t<W.i
   ·rw[a0a h1]
    cases hx:(l7 B (ru W.i (toL fn.params)) W.as y)[t]? with
    |none=>simp only[a2w,ao]
    |some v=>have ht:=(a1i.1 hx).1;simp only[a1n];exact hoth t t (by omega) (by rw[tv];omega) (by rw[hgu,a0a h1]) v hx
   rw[ds h1];by_cases h2:t=W.i
   ·subst h2;rw[a0a rfl,hget W.i (by rw[tv];omega),hgu,ds (a2x _),a0a rfl];simp only[a1n]
    have key:∀(o:O)(z:o.strip.den),slO o=true->go M0 kk=some ⟨o,z⟩->ao p0.β M0 (Imm F p0 M0 w) w (abv o kk) u:=fun o z ho hgo=>by
     cases o with
     |sl e=>simp only[abv,ao,ak];exact⟨_,none,hgo,by simp only[gok],⟨_,by simp only[get];rfl⟩,by simp only[res,p0]⟩
     |fz t|p a b|mp e e'|op e|pt o=>cases ho
    exact key W.o x hro hg0
   ·rw[ds h2]
    cases hx:(l7 B (ru W.i (toL fn.params)) W.as y)[t-1]? with
    |none=>simp only[a2w,ao]
    |some v=>have ht:=(a1i.1 hx).1;simp only[a1n];exact hoth t (t-1) (by omega) (by rw[tv];omega) (by rw[hgu,ds h1,ds h2]) v hx
 refine a4f hf hb (a2u (fun e a' w' he=>?_) (aad hΦ hB hmix cut c F (hE.of fun b hb _=>⟨⟨hb,fun hs=>(hSlt b hs).2 hb⟩,rfl⟩) A _ _ _ hck (q9 c) he p0 _ w hst))
 have key:∀p env M,St F p env M a' w'->bhp B (toL fn.results) W (Q x y) env M->(e=.normal\/e=.ret)->bodyPost P fn (fun e w'=>∃r rs R,Q x y r/\e=.returned (ot rs)/\ExtS w w' S/\(∀b,R b->b<w'.heap.size/\(S b\/w.heap.size<=b))/\
   g9 (fun b=>b<w'.heap.size/\(Ab b\/S b\/w.heap.size<=b)/\¬R b) w' W.rt r R rs) e a' w':=by
  intro p env M hs hr hee;unfold bhp at hr;split at hr
  ·rename_i r e1 M1 hres;obtain⟨rs,p',R,k1,t,k4,k5,k6,k7⟩:=aq6 (P:=P) (a:=a') hB (toL fn.results) W.rt p env M _ e1 M1 hs.hp hs.slots hres;rw[ew]at k1
   have hrun:(results fn a'.tmps).run P w'=.ok (ot rs) w':=by
    rw[ag9,a4g];simp only[a1q,a4h,k1,a14,a2l]
    match rs with
    |[]|[u]=>rfl
    |u::u'::r=>simp[ot]
   have hpost:∃r rs' R,Q x y r/\Ending.returned (ot rs)=.returned (ot rs')/\ExtS w w' S/\(∀b,R b->b<w'.heap.size/\(S b\/w.heap.size<=b))/\
     g9 (fun b=>b<w'.heap.size/\(Ab b\/S b\/w.heap.size<=b)/\¬R b) w' W.rt r R rs':=by
    refine⟨r,rs,R,hr,rfl,⟨t.hp.os,t.hp.tape,t.hp.output,t.hp.size,fun b hb hn=>t.hp.old b hb hn⟩,fun b hb=>⟨(t.hp.lim b (k5 b hb)).1,(t.hp.lim b (k5 b hb)).2.1.elim .inr fun h=>.inl h.2⟩,g9.keep (fun b hb=>⟨hb.1,hb.2.1,fun hR=>hb.2.2.1 (k5 b hR)⟩) _ _ _ _ k7⟩
   rcases hee with rfl|rfl
   ·exact⟨hs.defers,_,hrun,hpost⟩
   ·exact⟨hs.defers,_,hrun,hpost⟩
  ·exact hr.elim
 cases e with
 |normal=>obtain⟨p,env,M,h1,h2⟩:=he;exact key p env M h1 h2 (.inl rfl)
 |ret=>obtain⟨p,env,M,h1,h2⟩:=he;exact key p env M h1 h2 (.inr rfl)
 |exit id|goto l=>obtain⟨p,env,M,h1,h2⟩:=he;exact h2.elim
 |panic ch|outgrown=>exact he.elim
theorem bxf (hΦ : uf P Φ) (hB : TabOk P B) (hmix : P.follows .mixedOrders = true) {f : FuncId} {fn : Func} {c : Code} (hf : P.funcs[f]? = some fn) (hb : fn.body = some c) (hn : (fn.name == "runtime.NumGoroutine") = false) (W : Wu) (A : Ann) (cut : Nat -> Nat)
  (hro:slO W.o=true) (hi:W.i<=W.ag.length) (hga:gw W.i false W.ag=agL B fn) (hck:okC fn.ntmps cut c=true) (hlen:W.ag.length+1<=fn.ntmps)
  (h:∀x y,ab (W.o.strip.oks x)->ab (okL W.as y)->ab (W.pre x y)->bly B Φ cut fn c A W x y (fun r=>r=W.res x y)):bw P f (asg W):=by
 refine⟨t6 hf hb hn,fun Ab w u x us y S hE hAlt hSlt hr hargs hpre cs=>?_⟩;obtain⟨e,w',fr,⟨r,rs,R,hq,h1⟩,h2⟩:=wu_q hΦ hB hmix hf hb hn W (fun x y=>ab (W.pre x y)) (fun x y r=>r=W.res x y) A cut hro hi hga hck hlen h Ab w u x us y S hE hAlt hSlt hr hargs hpre cs;subst hq;exact⟨e,w',fr,⟨rs,R,h1⟩,h2⟩
end
theorem bsr{P:Program}{f:FuncId}{W:Wu}(μ:W.o.strip.den->db W.as->Nat){g:Nat->W.o.strip.den->db W.as->gq W.rt}(hc:ahw P f)(hg:∀x y,W.res x y=g (μ x y+1) x y)
  (hs:∀n,bw P f (asg ⟨W.o,W.as,W.ag,fun x y=>(μ x y<n)::W.pre x y,W.rt,g n,W.i⟩)->bw P f (asg ⟨W.o,W.as,W.ag,fun x y=>(μ x y<n+1)::W.pre x y,W.rt,g (n+1),W.i⟩)):bw P f (asg W):=by
 have key:∀n,bw P f (asg ⟨W.o,W.as,W.ag,fun x y=>(μ x y<n)::W.pre x y,W.rt,g n,W.i⟩):=by
  intro n
  induction n with
  |zero=>exact⟨hc,fun A w u x us y S _ _ _ _ _ h=>absurd h.1 (a45 _)⟩
  |succ n ih=>exact hs n ih
 refine⟨hc,fun A w u x us y S z a b c d h=>?_⟩;have:=(key (μ x y+1)).2 A w u x us y S z a b c d ⟨a3r _,h⟩;rw[hg];exact this
end Go.Bm
/- The ff machine:a function that writes what lies in the box that it is handed,and may take lists out of it. -/
namespace Go.Bm
open Go.RowKit
def bq5(B:Tab)(Φ:FuncId->Option Ct)(cut:Nat->Nat)(fn:Func)(c:Code)(A:Ann)(W:Wt)(x:W.o.strip.den)(y:db W.as)(K:W.o.strip.den->gq W.rt->Prop):Prop:=ev B Φ cut c A (bfj B (toL fn.results) W K) (acj 0 (gw W.i (abv W.o (cid 8999 0)) (l7 B (ru W.i (toL fn.params)) W.as y))) [(cid 8999 0,⟨W.o,x⟩)]
theorem bzr{Im Im':Nat->Prop}{w:World}(rs:List (Bool×O))(h:rs=[])(x:gq rs)(S:Nat->Prop){S':Nat->Prop}(us:List Value)(r:g9 Im w rs x S us):g9 Im' w rs x S' us:=by subst h;simpa only [g9]using r
section
variable {F:Fr} {a:Act} {w:World} {P:Program} {B:Tab} {Φ:FuncId->Option Ct}
theorem wx_q (hΦ : uf P Φ) (hB : TabOk P B) (hmix : P.follows .mixedOrders = true) {f : FuncId} {fn : Func} {c : Code} (hf : P.funcs[f]? = some fn) (hb : fn.body = some c) (hn : (fn.name == "runtime.NumGoroutine") = false) (W : Wt) (pr : W.o.strip.den -> db W.as -> Prop) (Q : W.o.strip.den -> db W.as -> W.o.strip.den -> gq W.rt -> Prop) (A : Ann) (cut : Nat -> Nat)
  (hrt:W.rt=[]) (hro:abw W.o=true) (hi:W.i<=W.ag.length) (hga:gw W.i false W.ag=agL B fn) (hck:okC fn.ntmps cut c=true) (hlen:W.ag.length+1<=fn.ntmps) (hnw:noW [W.i] c=true)
  (h:∀x y,ab (W.o.strip.oks x)->ab (okL W.as y)->pr x y->bq5 B Φ cut fn c A W x y (Q x y)) :
  ∀(A:Nat->Prop)(w:World)(u:Value)(x:W.o.strip.den)(us:List Value)(y:db W.as)(S:Nat->Prop),uj P A w->(∀b,A b->b<w.heap.size)->(∀b,S b->b<w.heap.size/\¬A b)->
  Rel (fun b=>A b) w W.o x S [u]->mg A w W.ag W.as y us->pr x y->
  Calls P f (gw W.i u us).toArray w fun e w'=>∃z r rs R S',Q x y z r/\e=.returned (ot rs)/\ExtS w w' S/\(∀b,R b->w.heap.size<=b/\b<w'.heap.size)/\(∀b,S' b->(S b\/w.heap.size<=b/\b<w'.heap.size)/\¬R b)/\
   Rel (fun b=>b<w'.heap.size/\(A b\/S b\/w.heap.size<=b)/\¬S' b/\¬R b) w' W.o z S' [u]/\
   g9 (fun b=>b<w'.heap.size/\(A b\/S b\/w.heap.size<=b)/\¬S' b/\¬R b) w' W.rt r R rs:=by
 intro Ab w u x us y S hE hAlt hSlt hr hargs hpre;let a0:Act:={ tmps:=(gw W.i u us).toArray++Array.replicate (fn.ntmps-(gw W.i u us).toArray.size) undef,defers:=[] }
 have hoks:ab (W.o.strip.oks x):=by have h1:=Rel.frz (Im':=fun _=>True) (fun _ _=>trivial) W.o x S [u] (fun _ _=>trivial) hr;have h2:=me _ _ (aq.ok _ _ _ h1);exact h2
 let F:Fr:=⟨w,w,Ab,S,fun _=>False,fn.ntmps,ad9 (fun _=>none) [W.i] a0,True⟩
 let p0:Ow:=⟨fun _=>u,fun _=>S,fun _=>False⟩
 replace h:=fun h1 h2=>h x y h1 h2 hpre;unfold bq5 at h;generalize cid 8999 0=kk at h;generalize hM0:([(kk,⟨W.o,x⟩)]:Mem)=M0;have hg0:go M0 kk=some ⟨W.o,x⟩:=by rw[←hM0,dn,a0a rfl]
 have hlive:∀k,c6 M0 k->k=kk:=fun k hk=>by
  unfold c6 at hk;rw[←hM0,dn]at hk;split at hk
  ·rename_i e;exact e.symm
  ·simp[go]at hk
 have himm:∀b,Ab b->Imm F p0 M0 w b:=fun b hb=>⟨hAlt b hb,.inl hb,fun h=>h,fun k hk hs=>(hSlt b hs).2 hb⟩;obtain⟨m,e⟩:=at8 W.i W.ag (toL fn.params) fn.nfree hi hga;obtain⟨l1,l2,l3,l4⟩:=ae2 (B:=B) (β:=p0.β) (M:=M0) himm W.ag W.as y us hargs (ru W.i (toL fn.params)) m e;have he:=h hoks l3;rw[hM0]at he;have hsz:a0.tmps.size=fn.ntmps:=by simp[a0,tv];omega
 have hget:∀t,t<(gw W.i u us).length->a0.tmps.getD t undef=(gw W.i u us).getD t undef:=fun t ht=>by simp only[a0];rw[a3v,a3u (by simpa using ht)];simp[a0l]
 have hrel0:Rel (Imm F p0 M0 w) w W.o x S [u]:=Rel.keep (fun b hb=>⟨himm b hb,rfl⟩) _ _ _ _ (fun _ _=>rfl) hr
 have hp0:Hp F p0 M0 w:=⟨fun k ob hk=>by have:=hlive k (cq hk);subst this;rw[hg0]at hk;cases hk;exact hrel0,fun k k' b hne hk hk'=>absurd ((hlive k hk).trans (hlive k' hk').symm) hne,
  fun k b hk hs=>⟨(hSlt b hs).1,.inr (.inr ⟨trivial,hs⟩)⟩,fun b hb=>hb.elim,rfl,⟨rfl,a0k _⟩,rfl,a0k _,fun b _ _=>rfl⟩
 have hst:St F p0 (acj 0 (gw W.i (abv W.o kk) (l7 B (ru W.i (toL fn.params)) W.as y))) M0 a0 w:=by
  refine⟨rfl,hsz,fun t v ht=>?_,fun b hb=>hb.elim,fun b hb=>hb,fun t=>?_,hp0⟩
  ·simp only[F,ad9]at ht
   cases hm:x7 t [W.i]with
   |true=>rw[hm]at ht;simpa using ht
   |false=>rw[hm]at ht;cases ht
  ·rw[alx];simp only[a1j,a04,a3t];have hil:W.i<=us.length:=by omega
   have hil2:W.i<=(l7 B (ru W.i (toL fn.params)) W.as y).length:=by omega
   have hgu:∀t,(gw W.i u us).getD t undef=if t<W.i then us.getD t undef else if t=W.i then u else us.getD (t-1) undef:=fun t=>by
    rw[a0l,ac7 u W.i us hil t];split
    ·rw[a0l]
    ·split
     ·rfl
     ·rw[a0l]
   have hoth:∀t s,s<us.length->t<(gw W.i u us).length->(gw W.i u us).getD t undef=us.getD s undef->∀v,(l7 B (ru W.i (toL fn.params)) W.as y)[s]? = some v->ao p0.β M0 (Imm F p0 M0 w) w v (a0.tmps.getD t undef):=fun t s hs ht he v hx=>by
    have hu:us[s]? = some us[s]:=a0p hs;rw[hget t ht,he];have:us.getD s undef=us[s]:=by simp[a0l,hu]
    rw[this];exact l4 s v _ hx hu
   have hlen2:(l7 B (ru W.i (toL fn.params)) W.as y).length=us.length:=by omega
   rw[ac7 _ W.i _ hil2 t];by_cases h1:t<W.i
   ·rw[a0a h1]
    cases hx:(l7 B (ru W.i (toL fn.params)) W.as y)[t]? with
    |none=>simp only[a2w,ao]
    |some v=>have ht:=(a1i.1 hx).1;simp only[a1n];exact hoth t t (by omega) (by rw[tv];omega) (by rw[hgu,a0a h1]) v hx
   rw[ds h1];by_cases h2:t=W.i
   ·subst h2;rw[a0a rfl,hget W.i (by rw[tv];omega),hgu,ds (a2x _),a0a rfl];simp only[a1n]
    have key:∀(o:O)(z:o.strip.den),abw o=true->go M0 kk=some ⟨o,z⟩->Rel (Imm F p0 M0 w) w o z S [u]->ao p0.β M0 (Imm F p0 M0 w) w (abv o kk) u:=fun o z ho hgo hrl=>by
     cases o with
     |pt o1=>simp only[abv,ao,ak];refine⟨u,rfl,?_⟩;simp only[Rel]at hrl;obtain⟨bb,us1,ty',S1,r1,_⟩:=hrl;simp only[a0q,a0c]at r1;exact⟨_,cellsOf w bb 0 o1.size,bb,0,hgo,by simp only[gok],by simp only[get];exact⟨_,rfl⟩,by simp only[dp],by simp only[p0,r1,res],r1⟩
     |sl e=>simp only[abv,ao,ak];exact⟨_,none,hgo,by simp only[gok],⟨_,by simp only[get];rfl⟩,by simp only[res,p0]⟩
     |fz t|p a b|mp e e'|op e=>cases ho
    exact key W.o x hro hg0 hrel0
   ·rw[ds h2]
    cases hx:(l7 B (ru W.i (toL fn.params)) W.as y)[t-1]? with
    |none=>simp only[a2w,ao]
    |some v=>have ht:=(a1i.1 hx).1;simp only[a1n];exact hoth t (t-1) (by omega) (by rw[tv];omega) (by rw[hgu,ds h1,ds h2]) v hx
 refine a4f hf hb (a2u (fun e a' w' he=>?_) (aad hΦ hB hmix cut c F (hE.of fun b hb _=>⟨⟨hb,fun hs=>(hSlt b hs).2 hb⟩,rfl⟩) A _ _ _ hck (tn c hnw (q9 c)) he p0 _ w hst))
 have key:∀p env M,St F p env M a' w'->aol B (toL fn.results) W (Q x y) env M->(e=.normal\/e=.ret)->bodyPost P fn (fun e w'=>∃z r rs R S',Q x y z r/\e=.returned (ot rs)/\ExtS w w' S/\(∀b,R b->w.heap.size<=b/\b<w'.heap.size)/\(∀b,S' b->(S b\/w.heap.size<=b/\b<w'.heap.size)/\¬R b)/\
   Rel (fun b=>b<w'.heap.size/\(Ab b\/S b\/w.heap.size<=b)/\¬S' b/\¬R b) w' W.o z S' [u]/\
   g9 (fun b=>b<w'.heap.size/\(Ab b\/S b\/w.heap.size<=b)/\¬S' b/\¬R b) w' W.rt r R rs) e a' w':=by
  intro p env M hs hr hee;unfold aol at hr;split at hr
  ·rename_i r e1 M1 hres;split at hr
   ·rename_i k hroot;split at hr
    ·rename_i ob hob;split at hr
     ·rename_i z hz;obtain⟨rs,p',R,k1,t,k4,k5,k6,k7⟩:=aq6 (P:=P) (a:=a') hB (toL fn.results) W.rt p env M _ e1 M1 hs.hp hs.slots hres;rw[ew]at k1
      have hrun:(results fn a'.tmps).run P w'=.ok (ot rs) w':=by
       rw[ag9,a4g];simp only[a1q,a4h,k1,a14,a2l]
       match rs with
       |[]|[u]=>rfl
       |u::u'::r=>simp[ot]
      have hu0:a'.tmps.getD W.i undef=u:=by have:=hs.fix W.i (a0.tmps.getD W.i undef) (by simp[F,ad9,x7]);rw[this,hget W.i (by rw[tv];omega),a0l,ac7 u W.i us (by omega),ds (a2x _),a0a rfl];rfl
      have hs0:=t.s _ _ (hs.slots W.i);rw[hu0]at hs0;obtain⟨w1,w2⟩:=afn hz;have hrk:=t.hp.objs k _ hob;have hbox:u=p'.β k:=am9 t.hp hob hroot (e:=[]) rfl hs0;rw[←hbox]at hrk;obtain⟨S',s1,s2⟩:=acg ob.o W.o w1 ob.x _ (p'.σ k) [u] w2 hrk;have hlk:=cq hob
      have hS':∀b,p'.σ k b->S b\/w.heap.size<=b/\b<w'.heap.size:=fun b hb=>by
       have:=t.hp.own k b (cq hob) hb;rcases this.2 with⟨_,h1⟩|h1
       ·exact .inl h1
       ·exact h1.elim (fun h1=>.inr ⟨h1,this.1⟩) (fun h1=>.inl h1.2)
      have hIm:∀b,Imm F p' M1 w' b->(b<w'.heap.size/\(Ab b\/S b\/w.heap.size<=b)/\¬S' b/\¬False):=fun b hb=>⟨hb.1,hb.2.1,fun h=>hb.2.2.2 k (cq hob) (s1 b h),fun h=>h⟩
      have hpost:∃z r rs' R S',Q x y z r/\Ending.returned (ot rs)=.returned (ot rs')/\ExtS w w' S/\(∀b,R b->w.heap.size<=b/\b<w'.heap.size)/\(∀b,S' b->(S b\/w.heap.size<=b/\b<w'.heap.size)/\¬R b)/\
        Rel (fun b=>b<w'.heap.size/\(Ab b\/S b\/w.heap.size<=b)/\¬S' b/\¬R b) w' W.o z S' [u]/\
        g9 (fun b=>b<w'.heap.size/\(Ab b\/S b\/w.heap.size<=b)/\¬S' b/\¬R b) w' W.rt r R rs':=by
       refine⟨z,r,rs,fun _=>False,S',hr,rfl,⟨t.hp.os,t.hp.tape,t.hp.output,t.hp.size,fun b hb hn=>t.hp.old b hb hn⟩,fun b hb=>hb.elim,fun b hb=>⟨hS' b (s1 b hb),fun h=>h⟩,s2 _ hIm (fun b hb hnb=>?_),bzr _ hrt _ _ _ k7⟩;refine⟨(t.hp.own k b (cq hob) hb).1,?_,hnb,fun h=>h⟩;exact .inr ((hS' b hb).imp id fun h=>h.1)
      rcases hee with rfl|rfl
      ·exact⟨hs.defers,_,hrun,hpost⟩
      ·exact⟨hs.defers,_,hrun,hpost⟩
     ·exact hr.elim
    ·exact hr.elim
   ·exact hr.elim
  ·exact hr.elim
 cases e with
 |normal=>obtain⟨p,env,M,h1,h2⟩:=he;exact key p env M h1 h2 (.inl rfl)
 |ret=>obtain⟨p,env,M,h1,h2⟩:=he;exact key p env M h1 h2 (.inr rfl)
 |exit id|goto l=>obtain⟨p,env,M,h1,h2⟩:=he;exact h2.elim
 |panic ch|outgrown=>exact he.elim
theorem cdp (hΦ : uf P Φ) (hB : TabOk P B) (hmix : P.follows .mixedOrders = true) {f : FuncId} {fn : Func} {c : Code} (hf : P.funcs[f]? = some fn) (hb : fn.body = some c) (hn : (fn.name == "runtime.NumGoroutine") = false) (W : Wt) (A : Ann) (cut : Nat -> Nat)
  (hrt:W.rt=[]) (hro:abw W.o=true) (hi:W.i<=W.ag.length) (hga:gw W.i false W.ag=agL B fn) (hck:okC fn.ntmps cut c=true) (hlen:W.ag.length+1<=fn.ntmps) (hnw:noW [W.i] c=true)
  (h:∀x y,ab (W.o.strip.oks x)->ab (okL W.as y)->ab (W.pre x y)->bq5 B Φ cut fn c A W x y (fun z r=>z=W.new x y/\r=W.res x y)):bw P f (vr W):=by
 refine⟨t6 hf hb hn,fun Ab w u x us y S hE hAlt hSlt hr hargs hpre cs=>?_⟩;obtain⟨e,w',fr,⟨z,r,rs,R,S',hq,h1⟩,h2⟩ :=wx_q hΦ hB hmix hf hb hn W (fun x y=>ab (W.pre x y)) (fun x y z r=>z=W.new x y/\r=W.res x y) A cut hrt hro hi hga hck hlen hnw h Ab w u x us y S hE hAlt hSlt hr hargs hpre cs;obtain⟨rfl,rfl⟩:=hq;exact⟨e,w',fr,⟨rs,R,S',h1⟩,h2⟩
end
end Go.Bm
/- The ff machine:calls that write boxes which closures among their arguments hold. -/
namespace Go.Bm
open Go.RowKit
def ny:V->V->Bool
 |.ad k π,.ad j ρ=>nob (Nat.beq k j) (nob (asf π) (asf ρ))
 |.bx a,.bx b=>ny a b
 |.fn f a,.fn g b=>nob (Nat.beq f g) (ny a b)
 |.p a b,.p c d=>nob (ny a c) (ny b d)
 |.u,.u|.any,.any|.d .any _,.d .any _=>true
 |_,_=>false
theorem amy:∀(a b:V),ny a b=true->a=b
 |.ad k π,b,h=>by cases b<;>simp only[ny,be,a0b]at h<;>first|(rw[a0v h.1,alo h.2.1,alo h.2.2])|cases h
 |.bx a,b,h=>by cases b<;>simp only[ny]at h<;>first|(rw[amy _ _ h])|cases h
 |.fn f a,b,h=>by cases b<;>simp only[ny,be,a0b]at h<;>first|(rw[a0v h.1,amy _ _ h.2])|cases h
 |.p a c,b,h=>by cases b<;>simp only[ny,be,a0b]at h<;>first|(rw[amy _ _ h.1,amy _ _ h.2])|cases h
 |.u,b,h|.any,b,h=>by cases b<;>first|rfl|cases h
 |.nl,b,h|.np,b,h=>by cases b<;>cases h
 |.d t x,b,h=>by cases t<;>first|(cases b<;>simp[ny]at h;done)|(cases b<;>first|(simp[ny]at h;done)|(rename_i t' x';cases t'<;>first|(simp[ny]at h;done)|rfl))
 |.ref _ _,b,h|.ag _,b,h|.tup _,b,h|.gd _ _ _ _,b,h|.ifc _ _,b,h=>by cases b<;>cases h
def aa6:List V->List V->Bool
 |[],[]=>true
 |a::r,b::s=>nob (ny a b) (aa6 r s)
 |_,_=>false
theorem atw:∀(a b:List V),aa6 a b=true->a=b
 |[],[],_=>rfl
 |a::r,b::s,h=>by simp only[aa6,be,a0b]at h;rw[amy _ _ h.1,atw _ _ h.2]
 |[],_::_,h|_::_,[],h=>by cases h
def aag(ρ:Nat->Nat):V->V
 |.ad k π=>.ad (ρ k) π
 |.bx a=>.bx (aag ρ a)
 |.fn f a=>.fn f (aag ρ a)
 |.p a b=>.p (aag ρ a) (aag ρ b)
 |v=>v
def ang(k:Nat):V->Bool
 |.ad j _=>Nat.beq k j
 |.bx a|.fn _ a=>ang k a
 |.p a b=>orb (ang k a) (ang k b)
 |_=>false
def bjn(f:V->Bool):List V->Bool
 |[]=>false
 |v::r=>orb (f v) (bjn f r)
def bco:List Nat->List V->Bool
 |[],_=>true
 |k::ks,vs=>nob (bjn (ang k) vs) (bco ks vs)
section
variable {β β':Nat->Value} {M M':Mem} {Im Im':Nat->Prop} {w w':World}
theorem ap0{ρ:Nat->Nat}(hM:∀i ob,go M (ρ i)=some ob->go M' i=some ob)(hI:∀b,Im b->Im' b):∀(v:V)(us:List Value),ny v v=true->ak β M Im w (aag ρ v) us->ak (fun i=>β (ρ i)) M' Im' w v us
 |.ad k π,us,_,r=>by simp only[aag,ak]at r⊢;obtain⟨v,rfl,ob,us,b,off,h1,h2⟩:=r;exact⟨v,rfl,ob,us,b,off,hM _ _ h1,h2⟩
 |.bx a,us,h,r=>by simp only[aag,ak]at r⊢;obtain⟨b,o,vs,h1,h2,h3,h4⟩:=r;exact⟨b,o,vs,h1,hI b h2,h3,ap0 hM hI a vs (by simpa only [ny]using h) h4⟩
 |.fn f a,us,h,r=>by simp only[aag,ak]at r⊢;obtain⟨vs,h1,h4⟩:=r;simp only[ny,be,a0b]at h;exact⟨vs,h1,ap0 hM hI a vs h.2 h4⟩
 |.p a b,us,h,r=>by simp only[aag,ak]at r⊢;obtain⟨va,vb,h1,h2,h3⟩:=r;simp only[ny,be,a0b]at h;exact⟨va,vb,h1,ap0 hM hI a va h.1 h2,ap0 hM hI b vb h.2 h3⟩
 |.u,us,_,r|.any,us,_,r=>by simpa only [aag,ak]using r
 |.nl,_,h,_|.np,_,h,_=>by cases h
 |.d t x,us,h,r=>by cases t<;>first|(simp[ny]at h;done)|(simp only[aag,ak,aq]at r⊢;exact r)
 |.ref _ _,_,h,_|.ag _,_,h,_|.tup _,_,h,_|.gd _ _ _ _,_,h,_|.ifc _ _,_,h,_=>by cases h
def awe:V->Bool
 |.any=>false
 |.p a b=>nob (awe a) (awe b)
 |_=>true
def bua:V->Bool
 |.any=>true
 |_=>false
def wfV:V->Bool
 |.p a b=>nob (awe a) (nob (wfV a) (wfV b))
 |.bx a=>nob (orb (bua a) (awe a)) (wfV a)
 |.fn _ a=>wfV a
 |_=>true
def bvy:V->Nat
 |.p a b=>bvy a+bvy b
 |.u=>0
 |_=>1
theorem al4:∀(v:V)(us:List Value),ny v v=true->awe v=true->ak β M Im w v us->us.length=bvy v
 |.ad k π,us,_,_,r=>by simp only[ak]at r;obtain⟨v,rfl,_⟩:=r;rfl
 |.bx a,us,_,_,r=>by simp only[ak]at r;obtain⟨b,o,vs,rfl,_⟩:=r;rfl
 |.fn f a,us,_,_,r=>by simp only[ak]at r;obtain⟨vs,rfl,_⟩:=r;rfl
 |.p a b,us,h,hn,r=>by simp only[ak]at r;obtain⟨va,vb,rfl,h2,h3⟩:=r;simp only[ny,be,a0b]at h;simp only[awe,be,a0b]at hn;rw[a0m,al4 a va h.1 hn.1 h2,al4 b vb h.2 hn.2 h3];rfl
 |.u,us,_,_,r=>by simp only[ak]at r;subst r;rfl
 |.any,us,_,hn,_=>by cases hn
 |.nl,_,h,_,_|.np,_,h,_,_=>by cases h
 |.d t x,us,h,_,r=>by cases t<;>first|(simp[ny]at h;done)|(simp only[ak,aq]at r;obtain⟨v,rfl,_⟩:=r;rfl)
 |.ref _ _,_,h,_,_|.ag _,_,h,_,_|.tup _,_,h,_,_|.gd _ _ _ _,_,h,_,_|.ifc _ _,_,h,_,_=>by cases h
theorem pin(H:∀k u,Adr β M w k [.de] u->u=β k)(H':∀k u,Adr β' M' w' k [.de] u->u=β' k)(hk:∀b,Im b->w'.heap[b]? = w.heap[b]?):∀(v:V)(us:List Value),ny v v=true->wfV v=true->ak β M Im w v us->ak β' M' Im' w' v us->∀k,ang k v=true->β k=β' k
 |.ad j π,us,h,_,r,r',k,ho=>by simp only[ny,be,a0b]at h;have:=alo h.2.1;subst this;have:=a0v ho;subst this;simp only[ak]at r r';obtain⟨v,rfl,r⟩:=r;obtain⟨v',e,r'⟩:=r';simp only[a0q,a0c]at e;subst e;rw[←H k v r,←H' k v r']
 |.bx a,us,h,hw,r,r',k,ho=>by
  simp only[ny]at h;simp only[wfV,be,lq,a0b,a09]at hw;simp only[ang]at ho;simp only[ak]at r r';obtain⟨b,o,vs,rfl,h2,h3,h4⟩:=r;obtain⟨b',o',vs',e,h2',h3',h4'⟩:=r';simp only[a0q,a5e,a0e,Addr.mk.injEq,a0c]at e;obtain⟨rfl,rfl⟩:=e;rcases hw.1 with hn|hn
  ·cases a<;>first|(simp[bua]at hn;done)|(simp[ang]at ho;done)
  ·have hl:=al4 a vs h hn h4;have hl':=al4 a vs' h hn h4'
   have:vs=vs':=a2o fun i=>by
    by_cases hi:i<vs.length
    ·have e1:=h3 i vs[i] (a0p hi);have e2:=h3' i vs'[i] (a0p (by omega));have e3:w'.cell? ⟨b,o+i,none⟩=w.cell? ⟨b,o+i,none⟩:=by simp[World.cell?,hk b h2]
     rw[e3,e1]at e2;rw[a0p hi,a0p (by omega)];exact e2
    ·rw[a12 (by omega),a12 (by omega)]
   subst this;exact pin H H' hk a vs h hw.2 h4 h4' k ho
 |.fn f a,us,h,hw,r,r',k,ho=>by
  simp only[ny,be,a0b]at h;simp only[wfV]at hw;simp only[ang]at ho;simp only[ak]at r r';obtain⟨vs,rfl,h4⟩:=r;obtain⟨vs',e,h4'⟩:=r';simp only[a0q,Value.func.injEq,a0c,a0f]at e;have:vs=vs':=by simpa using e
  subst this;exact pin H H' hk a vs h.2 hw h4 h4' k ho
 |.p a b,us,h,hw,r,r',k,ho=>by
  simp only[ny,be,a0b]at h;simp only[wfV,be,a0b]at hw;simp only[ang,lq,a09]at ho;simp only[ak]at r r';obtain⟨va,vb,rfl,h2,h3⟩:=r;obtain⟨va',vb',e,h2',h3'⟩:=r';have hl:=al4 a va h.1 hw.1 h2;have hl':=al4 a va' h.1 hw.1 h2';obtain⟨rfl,rfl⟩:=List.append_inj e (by omega);rcases ho with ho|ho
  ·exact pin H H' hk a va h.1 hw.2.1 h2 h2' k ho
  ·exact pin H H' hk b vb h.2 hw.2.2 h3 h3' k ho
 |.u,_,_,_,_,_,_,ho|.any,_,_,_,_,_,_,ho=>by cases ho
 |.nl,_,h,_,_,_,_,_|.np,_,h,_,_,_,_,_=>by cases h
 |.d _ _,_,_,_,_,_,_,ho=>by cases ho
 |.ref _ _,_,h,_,_,_,_,_|.ag _,_,h,_,_,_,_,_|.tup _,_,h,_,_,_,_,_|.gd _ _ _ _,_,h,_,_,_,_,_|.ifc _ _,_,h,_,_,_,_,_=>by cases h
end
@[reducible] def nr:List O->Type
 |[]=>Unit
 |o::r=>o.strip.den×nr r
structure Wz where
 fl:Bool
 os:List O
 as:List T
 key:List V->List Nat
 pat:List Nat->List V
 pre:nr os->db as->List Prop
 new:nr os->db as->nr os
 res:nr os->db as->Bool
def act(M:Mem):List Nat->(os:List O)->Option (nr os)
 |[],[]=>some ()
 |k::ks,o::os=>(match go M k with
  |some ob=>(match yp ob o,act M ks os with|some x,some r=>some (x,r)|_,_=>none)
  |none=>none)
 |_,_=>none
def upZ:List Nat->(os:List O)->nr os->List (Nat×O×Ob)
 |k::ks,o::os,x=>(k,o,⟨o,x.1⟩)::upZ ks os x.2
 |_,_,_=>[]
def bjs:List O->Bool
 |[]=>true
 |o::r=>nob o.flat (bjs r)
def bxg(fl:Bool)(os:List O)(M:Mem)(ks:List Nat)(vs:List V)(ts:List T):Option (db ts):=bif fl then (bif bjs os then aaj (mn ks M) vs ts else none)else asL vs ts
def evZ(Z:Wz)(vs:List V)(M:Mem):Orr:=
 match Z.key (nz (len Z.as) vs)with
 |ks=>bif cd [shp (eq (len Z.as) vs) (x4 Z.as),acm ks,ark ks,aa6 (nz (len Z.as) vs) (Z.pat ks)]then
  (match bxg Z.fl Z.os M ks (eq (len Z.as) vs) Z.as,act M ks Z.os with
  |some y,some xs=>⟨Z.pre xs y,.d .bool (Z.res xs y),upZ ks Z.os (Z.new xs y)⟩
  |_,_=>⟨[False],.any,[]⟩)else⟨[False],.any,[]⟩
def zCt(Z:Wz):Ct:=⟨[],[],fun _=>[],[],fun _=>(),false,some (.o ⟨evZ Z⟩)⟩
def mb(Im:Nat->Prop)(w:World)(β:Nat->Value)(σ:Nat->Nat->Prop):List Nat->(os:List O)->nr os->Prop
 |k::ks,o::os,x=>Rel Im w o x.1 (σ k) [β k]/\mb Im w β σ ks os x.2
 |[],[],_=>True
 |_,_,_=>False
theorem mb.keys{Im:Nat->Prop}{w:World}{β:Nat->Value}{σ:Nat->Nat->Prop}:∀(ks:List Nat)(os:List O)(x:nr os),mb Im w β σ ks os x->ks.length=os.length
 |[],[],_,_=>rfl
 |k::ks,o::os,x,r=>by simp only[mb]at r;simp[mb.keys ks os x.2 r.2]
 |[],_::_,_,r|_::_,[],_,r=>by simp only[mb]at r
def ZOk(P:Program)(f:FuncId)(Z:Wz):Prop:=
 ∀(A:Nat->Prop)(w:World)(β:Nat->Value)(M:Mem)(ks:List Nat)(σ:Nat->Nat->Prop)(xs:nr Z.os)(y:db Z.as)(us0 us1:List Value),uj P A w->(∀b,A b->b<w.heap.size)->ks.Nodup->act M ks Z.os=some xs->
  (∀k,k∈ks->∀b,σ k b->b<w.heap.size/\¬A b)->(∀k k',k∈ks->k'∈ks->k≠k'->∀b,σ k b->¬σ k' b)->mb A w β σ ks Z.os xs->mg A w (x4 Z.as) Z.as y us0->
  us1.length=(Z.pat ks).length->(∀(i:Nat) v u,(Z.pat ks)[i]? = some v->us1[i]? = some u->ao β M A w v u)->ab (Z.pre xs y)->
  Calls P f (us0++us1).toArray w fun e w'=>∃σ':Nat->Nat->Prop,e=.returned (.bool (Z.res xs y))/\ExtS w w' (fun b=>∃k,k∈ks/\σ k b)/\(∀k,k∈ks->∀b,σ' k b->(∃j,j∈ks/\σ j b)\/w.heap.size<=b/\b<w'.heap.size)/\
   (∀k k',k∈ks->k'∈ks->k≠k'->∀b,σ' k b->¬σ' k' b)/\
   mb (fun b=>b<w'.heap.size/\(A b\/(∃j,j∈ks/\σ j b)\/w.heap.size<=b)/\∀k,k∈ks->¬σ' k b) w' β σ' ks Z.os (Z.new xs y)
theorem bfo:∀{l:List Nat},acm l=true->l.Nodup
 |[],_=>a46
 |k::r,h=>by
  simp only[acm]at h
  cases hi:inN k r with
  |true=>rw[hi]at h;cases h
  |false=>
   rw[hi]at h;refine a3h.2 ⟨fun hm=>?_,bfo h⟩
   have:∀l:List Nat,k∈l->inN k l=true:=fun l=>by
    induction l with
    |nil=>intro h;cases h
    |cons j r ih=>
     intro h;simp only[inN]
     cases hb:Nat.beq j k with
     |true=>rfl
     |false=>
      rcases a0t.1 h with e|e
      ·subst e;rw[a3c]at hb;cases hb
      ·exact ih e
   rw[this r hm]at hi;cases hi
section
variable {F:Fr} {p p':Ow} {M M':Mem} {w w':World} {P:Program}
theorem bfk(hp:Hp F p M w){A:Nat->Prop}{N:Mem}(hN:∀j ob,go N j=some ob->go M j=some ob)(hI:∀b,Imm F p M w b->A b)(hW:∀j b,c6 N j->p.σ j b->A b):(vs:List V)->(gs:List Bool)->(ts:List T)->(x:db ts)->(us:List Value)->us.length=vs.length->(∀(i:Nat) v u,vs[i]? = some v->us[i]? = some u->ao p.β M (Imm F p M w) w v u)->shp vs gs=true->aaj N vs ts=some x->mg A w gs ts x us
 |[],[],[],x,us,hl,_,_,h=>by simp only[mg];exact a18 (by simpa using hl)
 |[],_::_,_,x,us,hl,_,hs,h=>by simp[shp]at hs
 |[],[],_::_,x,us,hl,_,hs,h=>by simp[aaj]at h
 |_::_,[],_,x,us,hl,_,hs,h=>by simp[shp]at hs
 |_::_,_::_,[],x,us,hl,_,hs,h=>by simp[aaj]at h
 |v::r,g::gs,t::ts,x,us,hl,hr,hs,h=>by
  simp only[aaj]at h;split at h
  ·rename_i y z hy hz;cases h
   cases us with
   |nil=>simp at hl
   |cons u us=>obtain⟨s1,s2⟩:=ax8 hs;obtain⟨cs,c1,c2,c3⟩:=amz hp (hr 0 v u rfl rfl) (az4 hy);simp only[mg];exact⟨u,us,cs,rfl,fun hg=>c1 (s1.trans hg),fun hg=>c2 (s1.trans hg),afk hp hN hI hW _ _ _ _ c3 hy,bfk hp hN hI hW r gs ts z us (by simpa using hl) (fun i v' u' hv' hu'=>hr (i+1) v' u' (by simpa using hv') (by simpa using hu')) s2 hz⟩
  ·cases h
theorem awt{j:Nat}:∀(ks:List Nat)(M:Mem)(ob:Ob),go (mn ks M) j=some ob->go M j=some ob/\j∉ks
 |[],M,ob,h=>⟨h,fun h=>by cases h⟩
 |k::ks,M,ob,h=>by
  simp only[mn]at h;obtain⟨h1,h2⟩:=awt ks _ ob h;by_cases e:j=k
  ·subst e;rw[dy]at h1;cases h1
  ·rw[dx e]at h1;exact⟨h1,fun hm=>(a0t.1 hm).elim e h2⟩
theorem bud{Im Im':Nat->Prop}{β:Nat->Value}{σ:Nat->Nat->Prop}:∀(ks:List Nat)(os:List O)(xs:nr os),bjs os=true->mb Im w β σ ks os xs->mb Im' w β σ ks os xs
 |[],[],_,_,_=>trivial
 |k::ks,o::os,xs,h,r=>by simp only[bjs,be,a0b]at h;simp only[mb]at r⊢;exact⟨ae5 o h.1 _ _ _ r.1,bud ks os xs.2 h.2 r.2⟩
 |[],_::_,_,_,r|_::_,[],_,_,r=>by simp only[mb]at r
theorem bm1{Im Im':Nat->Prop}{β:Nat->Value}{σ:Nat->Nat->Prop}(hI:∀b,Im b->Im' b):∀(ks:List Nat)(os:List O)(xs:nr os),mb Im w β σ ks os xs->mb Im' w β σ ks os xs
 |[],[],_,_=>trivial
 |k::ks,o::os,xs,r=>by simp only[mb]at r⊢;exact⟨Rel.keep (fun b hb=>⟨hI b hb,rfl⟩) _ _ _ _ (fun _ _=>rfl) r.1,bm1 hI ks os xs.2 r.2⟩
 |[],_::_,_,r|_::_,[],_,r=>by simp only[mb]at r
theorem azb(h:Hp F p M w):∀(ks:List Nat)(os:List O)(xs:nr os),act M ks os=some xs->mb (Imm F p M w) w p.β p.σ ks os xs/\∀k,k∈ks->c6 M k
 |[],[],xs,_=>⟨trivial,fun k hk=>by cases hk⟩
 |k::ks,o::os,xs,hg=>by
  simp only[act]at hg;split at hg
  ·rename_i ob hob;split at hg
   ·rename_i x r hx hr;cases hg;have:=xq hx;subst this;obtain⟨i1,i2⟩:=azb h ks os r hr;refine⟨⟨h.objs k _ hob,i1⟩,fun j hj=>?_⟩;rcases a0t.1 hj with e|e
    ·subst e;exact cq hob
    ·exact i2 j e
   ·cases hg
  ·cases hg
 |[],_::_,_,hg|_::_,[],_,hg=>by simp[act]at hg
theorem bn1{j:Nat}:∀(l:List (Nat×O×Ob)) (M:Mem),c6 (anj l M) j<->c6 M j
 |[],_=>a17
 |q::r,M=>by simp only[anj];rw[afc];exact bn1 r M
theorem byo{j:Nat}:∀(l:List (Nat×O×Ob)) (M:Mem),(∀q,q∈l->q.1≠j)->go (anj l M) j=go M j
 |[],_,_=>rfl
 |q::r,M,h=>by simp only[anj];rw[lu _ (fun e=>h q (a1t ..) e.symm),byo r M (fun q hq=>h q (a1k _ hq))]
theorem brs:∀(ks:List Nat)(os:List O)(xs:nr os)(q:Nat×O×Ob),q∈upZ ks os xs->q.1∈ks
 |[],os,xs,q,h=>by cases os<;>cases h
 |k::ks,[],xs,q,h=>by cases h
 |k::ks,o::os,xs,q,h=>by
  simp only[upZ]at h;rcases a0t.1 h with e|e
  ·subst e;exact a1t ..
  ·exact a1k _ (brs ks os xs.2 q e)
theorem bc1{Im:Nat->Prop}{β:Nat->Value}{σ:Nat->Nat->Prop}:∀(ks:List Nat)(os:List O)(xs zs:nr os),ks.Nodup->(∀k,k∈ks->c6 M k)->act M ks os=some xs->mb Im w β σ ks os zs->
  ∀k,k∈ks->∃(o:O)(x z:o.strip.den),go M k=some ⟨o,x⟩/\go (anj (upZ ks os zs) M) k=some ⟨o,z⟩/\Rel Im w o z (σ k) [β k]
 |[],_,_,_,_,_,_,_,k,hk=>by cases hk
 |j::ks,[],_,_,_,_,hg,_,_,_=>by simp[act]at hg
 |j::ks,o::os,xs,zs,hn,hl,hg,hr,k,hk=>by
  simp only[act]at hg;split at hg
  ·rename_i ob hob;split at hg
   ·rename_i x r hx hr';cases hg;have:=xq hx;subst this;simp only[mb]at hr;obtain⟨n1,n2⟩:=a3h.1 hn;by_cases e:k=j
    ·subst e;exact⟨o,x,zs.1,hob,by simp only[upZ,anj];exact my _ _ ((bn1 _ _).2 (cq hob)),hr.1⟩
    ·obtain⟨o',x',z',a1,a2,a3⟩:=bc1 ks os r zs.2 n2 (fun k hk=>hl k (a1k _ hk)) hr' hr.2 k ((a0t.1 hk).resolve_left e);exact⟨o',x',z',a1,by simp only[upZ,anj];rw[lu _ e];exact a2,a3⟩
   ·cases hg
  ·cases hg
theorem btc:∀(ks:List Nat)(os:List O)(zs:nr os),ks.Nodup->ks.length=os.length->∀k π,(V.ref k π).evs (ae1 (upZ ks os zs))=if k∈ks then (if z7 π=true then .ref k π else .any)else .ref k π
 |[],[],_,_,_,k,π=>by simp[upZ,ae1,V.evs]
 |[],_::_,_,_,h,_,_|_::_,[],_,_,h,_,_=>by simp at h
 |j::ks,o::os,zs,hn,hl,k,π=>by
  obtain⟨n1,n2⟩:=a3h.1 hn;have ih:=btc ks os zs.2 n2 (by simpa using hl) k π;simp only[upZ,ae1,V.evs,V.ev,Ev.ref,dg];by_cases e:k=j
  ·subst e;rw[a0a rfl,a0a (a1t ..)]
   cases hp:z7 π with
   |true=>simp only[a0d,a04];rw[ih,ds n1]
   |false=>simp only[a0j,a1g,if_false];exact aqg _
  ·rw[ds e,ih];by_cases h:k∈ks
   ·rw[a0a h,a0a (a1k _ h)]
   ·rw[ds h,ds (fun h'=>(a0t.1 h').elim e h)]
theorem bp1:∀(ks:List Nat)(os:List O)(zs:nr os),∀k,k∉ks->∀π,(V.ad k π).evs (ae1 (upZ ks os zs))=.ad k π
 |[],os,_,k,_,π=>by cases os<;>rfl
 |_::_,[],_,k,_,π=>rfl
 |j::ks,o::os,zs,k,hk,π=>by simp only[upZ,ae1,V.evs,V.ev,Ev.ad,dg];rw[ds (fun e=>hk (by rw[e];exact a1t ..))];exact bp1 ks os zs.2 k (fun h=>hk (a1k _ h)) π
theorem bt5:∀(ks:List Nat)(os:List O)(xs zs:nr os),ks.Nodup->act M ks os=some xs->∀k,k∈ks->∀π,(V.ad k π).evs (ae1 (upZ ks os zs))=.any\/((V.ad k π).evs (ae1 (upZ ks os zs))=.ad k π/\∃(o:O)(x:o.strip.den)(n:Nat),go M k=some ⟨o,x⟩/\qb π o=some n)
 |[],_,_,_,_,_,k,hk,_=>by cases hk
 |j::ks,[],_,_,_,hg,_,_,_=>by simp[act]at hg
 |j::ks,o::os,xs,zs,hn,hg,k,hk,π=>by
  simp only[act]at hg;split at hg
  ·rename_i ob hob;split at hg
   ·rename_i x r hx hr';cases hg;have:=xq hx;subst this;obtain⟨n1,n2⟩:=a3h.1 hn;simp only[upZ,ae1,V.evs,V.ev,Ev.ad,dg];by_cases e:k=j
    ·subst e;rw[a0a rfl]
     cases hs:aan (qb π o) (qb π o)with
     |false=>simp only[a0j];exact .inl (aqg _)
     |true=>simp only[a0d];obtain⟨m,s1,_⟩:=arn hs;rw[bp1 ks os zs.2 k n1];exact .inr ⟨rfl,o,x,m,hob,s1⟩
    ·rw[ds e];exact bt5 ks os r zs.2 n2 hr' k ((a0t.1 hk).resolve_left e) π
   ·cases hg
  ·cases hg
structure UpdX (F:Fr) (p:Ow) (M:Mem) (w w':World) (T S':Nat->Prop) (L:List Nat) (σ':Nat->Nat->Prop) (M0 M1:Mem) (e:List Ev):Prop where
 keys:∀k,k∈L->∃ob ob',go M k=some ob/\go M1 k=some ob'/\Rel (fun b=>b<w'.heap.size/\(Imm F p M w b\/T b\/w.heap.size<=b)/\∀i,i∈L->¬σ' i b) w' ob'.o ob'.x (σ' k) [p.β k]
 sub:∀k,k∈L->∀c,σ' k c->(p.σ k c/\¬T c)\/S' c
 dis:∀k k',k∈L->k'∈L->k≠k'->∀c,σ' k c->¬σ' k' c
 rest:∀k,k∉L->go M1 k=go M0 k
 ref:∀k π,(V.ref k π).evs e=if k∈L then (if z7 π=true then .ref k π else .any)else .ref k π
 ad:∀k,k∉L->∀π,(V.ad k π).evs e=.ad k π
 adk:∀k,k∈L->∀π,(V.ad k π).evs e=.any\/((V.ad k π).evs e=.ad k π/\∃ob ob' n,go M k=some ob/\go M1 k=some ob'/\qb π ob.o=some n/\qb π ob'.o=some n)
theorem bwb(hp:Hp F p M w){L:List Nat}{σ':Nat->Nat->Prop}{T S':Nat->Prop}{M1:Mem}{e:List Ev}(hX:ExtS w w' T)(hT:∀c,T c->∃k,k∈L/\c6 M k/\p.σ k c)
  (hS:∀c,S' c->T c\/w.heap.size<=c/\c<w'.heap.size) (U:UpdX F p M w w' T S' L σ' M M1 e) (hg:ark L=true):∃p',Tr F p M w e p' M1 w'/\∀b,¬p'.L b:=by
 generalize hp':(⟨p.β,fun j=>if j∈L then σ' j else p.σ j,fun _=>False⟩:Ow)=p';have hβ:p'.β=p.β:=by rw[←hp']
 have hσ1:∀j,j∈L->p'.σ j=σ' j:=fun j hj=>by rw[←hp'];simp[hj]
 have hσ2:∀j,j∉L->p'.σ j=p.σ j:=fun j hj=>by rw[←hp'];simp[hj]
 have hL':∀b,¬p'.L b:=by rw[←hp'];exact fun b h=>h
 have hlv:∀j,c6 M1 j<->c6 M j:=fun j=>by
  by_cases hj:j∈L
  ·obtain⟨ob,ob',g1,g2,_⟩:=U.keys j hj;exact⟨fun _=>cq g1,fun _=>cq g2⟩
  ·unfold c6;rw[U.rest j hj]
 have hTs:∀j c,j∉L->c6 M j->p.σ j c->¬T c:=fun j c hj hl hc ht=>by obtain⟨k,k1,k2,k3⟩:=hT c ht;exact hp.sep k j c (fun e=>hj (e▸k1)) k2 hl k3 hc
 have hkeep:ju (Imm F p M w) (Imm F p' M1 w') w w':=fun b hb=>by
  have hnT:¬T b:=fun ht=>by obtain⟨k,_,k2,k3⟩:=hT b ht;exact hb.2.2.2 k k2 k3
  refine⟨⟨a1a hb.1 hX.size,hb.2.1,hL' b,fun j hj=>?_⟩,hX.old b hb.1 hnT⟩;by_cases h:j∈L
  ·rw[hσ1 j h];intro hc;rcases U.sub j h b hc with⟨q,_⟩|q
   ·exact hb.2.2.2 j ((hlv j).1 hj) q
   ·rcases hS b q with q|q
    ·exact hnT q
    ·have:=hb.1;omega
  ·rw[hσ2 j h];exact hb.2.2.2 j ((hlv j).1 hj)
 have hoth:∀j,j∉L->c6 M j->∀b,p.σ j b->w'.heap[b]? = w.heap[b]?:=fun j hj hl b hb=>hX.old b (hp.own j b hl hb).1 (hTs j b hj hl hb)
 have href:∀k π vs,Ref p.β M w k π vs->ak p'.β M1 (Imm F p' M1 w') w' ((V.ref k π).evs e) vs:=fun k π vs r=>by
  rw[U.ref];by_cases h:k∈L
  ·rw[a0a h]
   cases π with
   |nil=>simp only[z7,a04,ak];obtain⟨o,pl0,k1,k2,k3,k4⟩:=r;simp only[res,a0e,a0n]at k4;obtain⟨rfl,rfl⟩:=k4;obtain⟨ob,ob',g1,g2,_⟩:=U.keys k h;exact⟨ob',none,g2,by simp only[gok],⟨ob',by simp only[get]⟩,by simp only[res,hβ]⟩
   |cons s ρ=>simp only[z7,a1g,if_false,ak];exact r.one hp
  ·rw[ds h];simp only[ak];exact r.same hp (U.rest k h) (by rw[hβ]) (hoth k h)
 have had:∀k π v,Adr p.β M w k π v->ak p'.β M1 (Imm F p' M1 w') w' ((V.ad k π).evs e) [v]:=fun k π v r=>by
  by_cases h:k∈L
  ·rcases U.adk k h π with he|⟨he,ob,ob',m,g1,g2,s1,s2⟩
   ·rw[he];simp only[ak];intro u hu;rw[a0s.1 hu];exact r.one
   ·rw[he];simp only[ak];refine⟨v,rfl,?_⟩;obtain⟨o,us0,b0,off0,k1,k2,k3,k4,k5,rfl⟩:=r;rw[g1]at k1;cases k1;obtain⟨ρ1,o1,rfl,e1,f1⟩:=acl s1;obtain⟨ρ2,o2,e2',e2,f2⟩:=acl s2;simp only[a0q,a0f]at e2';subst e2';obtain⟨ox,xx⟩:=ob;obtain⟨ox',xx'⟩:=ob';simp only at e1 e2;subst e1 e2;have hr:=hp.objs k _ g1;simp only[Rel]at hr;obtain⟨bb,us1,ty',S1,r1,r2,r3,r4,r5⟩:=hr;simp only[a0q,a0c]at r1;rw[r1]at k5;simp only[res]at k5;obtain⟨_,_,us2,q3⟩:=tx w ρ1 o1 m f1 xx (cellsOf w bb 0 o1.size) (some (bb,0));rw[q3]at k5;simp only[a0e,a0n]at k5;obtain⟨q1,q2,us3,q3'⟩:=tx w' ρ1 o2 m f2 xx' (cellsOf w' bb 0 o2.size) (some (bb,0));refine⟨_,us3,b0,off0,g2,by simpa only [gok]using q2,by simpa only [get]using q1,by simp only[dp],?_,rfl⟩;rw[hβ,r1];simp only[res];rw[q3',k5.2]
  ·rw[U.ad k h];simp only[ak];exact⟨v,rfl,r.same hp (U.rest k h) (by rw[hβ]) (hoth k h)⟩
 have hin:∀k c,k∈L->σ' k c->∀j,j∉L->c6 M j->¬p.σ j c:=fun k c hk hc j hj hl hs=>by
  obtain⟨_,_,g1,_⟩:=U.keys k hk;rcases U.sub k hk c hc with⟨q,_⟩|q
  ·exact hp.sep k j c (fun e=>hj (e▸hk)) (cq g1) hl q hs
  ·rcases hS c q with q|q
   ·exact hTs j c hj hl hs q
   ·have:=(hp.own j c hl hs).1;omega
 refine⟨p',⟨hkeep,ak.evs hkeep href had,ao.evs hkeep href had,⟨fun j o hj=>?_,fun j j' b hne hj hj' hb=>?_,fun j b hj hb=>?_,fun b hb=>(hL' b hb).elim,hX.os.trans hp.os,hX.tape.trans hp.tape,hX.output.trans hp.output,a0z hp.size hX.size,fun b hb hR=>?_⟩⟩,hL'⟩
 ·by_cases h:j∈L
  ·obtain⟨ob,ob',g1,g2,g3⟩:=U.keys j h;rw[g2]at hj;cases hj;rw[hβ,hσ1 j h];refine Rel.keep (fun b hb=>⟨⟨hb.1,?_,hL' b,fun i hi hs=>?_⟩,rfl⟩) _ _ _ _ (fun _ _=>rfl) g3
   ·rcases hb.2.1 with q|q|q
    ·exact q.2.1
    ·obtain⟨i,_,i2,i3⟩:=hT b q;exact (hp.own i b i2 i3).2.elim (fun z=>.inr (.inl z.2)) (fun z=>.inr z.r)
    ·exact .inr (.inr (a0z hp.size q))
   ·by_cases hiL:i∈L
    ·rw[hσ1 i hiL]at hs;exact hb.2.2 i hiL hs
    ·rw[hσ2 i hiL]at hs;have hli:=(hlv i).1 hi;rcases hb.2.1 with q|q|q
     ·exact q.2.2.2 i hli hs
     ·exact hTs i b hiL hli hs q
     ·have:=(hp.own i b hli hs).1;omega
  ·rw[U.rest j h]at hj;rw[hβ,hσ2 j h];exact Rel.keep hkeep _ _ _ _ (hoth j h (cq hj)) (hp.objs j o hj)
 ·have hj1:=(hlv j).1 hj;have hj2:=(hlv j').1 hj';by_cases h:j∈L
  ·rw[hσ1 j h]at hb;by_cases h':j'∈L
   ·rw[hσ1 j' h'];exact U.dis j j' h h' hne b hb
   ·rw[hσ2 j' h'];exact hin j b h hb j' h' hj2
  ·rw[hσ2 j h]at hb;by_cases h':j'∈L
   ·rw[hσ1 j' h'];exact fun hc=>hin j' b h' hc j h hj1 hb
   ·rw[hσ2 j' h'];exact hp.sep j j' b hne hj1 hj2 hb
 ·have hj1:=(hlv j).1 hj;by_cases h:j∈L
  ·rw[hσ1 j h]at hb;rcases U.sub j h b hb with⟨q,_⟩|q
   ·have:=hp.own j b hj1 q;exact⟨a1a this.1 hX.size,this.2⟩
   ·rcases hS b q with q|q
    ·obtain⟨k,k1,k2,k3⟩:=hT b q;have:=hp.own k b k2 k3;refine⟨a1a this.1 hX.size,?_⟩;rcases this.2 with⟨a1,a2⟩|a1
     ·exact .inl ⟨at5 hg k k1 j h a1,a2⟩
     ·exact .inr a1
    ·exact⟨q.2,.inr (.inl (a0z hp.size q.1))⟩
  ·rw[hσ2 j h]at hb;have:=hp.own j b hj1 hb;exact⟨a1a this.1 hX.size,this.2⟩
 ·rw[hX.old b (a1a hb hp.size) (fun ht=>?_)]
  ·exact hp.old b hb hR
  ·obtain⟨k,_,k2,k3⟩:=hT b ht;rcases (hp.own k b k2 k3).2 with⟨_,a2⟩|a1
   ·exact hR a2
   ·exact a1.r.elim hR fun h=>by omega
theorem bxt{f:FuncId}{Z:Wz}(hc:ahw P f)(hz:ZOk P f Z):bw P f (zCt Z):=by
 refine⟨hc,fun F p M w vs us hG h hL hlen hrel hv=>?_⟩;unfold aor at hv⊢;generalize hE:(⟨evZ Z⟩:Orc).ev vs M=E at hv⊢;obtain⟨vc,av,up⟩:=E
 cases up with
 |nil=>exact hv.1.elim
 |cons q r=>
  simp only at hv⊢;change evZ Z vs M=_ at hE;unfold evZ at hE;simp only at hE;generalize hks:Z.key (nz (len Z.as) vs)=ks at hE;generalize hb:cd [shp (eq (len Z.as) vs) (x4 Z.as),acm ks,ark ks,aa6 (nz (len Z.as) vs) (Z.pat ks)]=b at hE
  cases b with
  |false=>simp only[a0j,Orr.mk.injEq]at hE;exact absurd hE.2.2 (by simp)
  |true=>
   simp only[a0d]at hE;simp only[br,bz,a0o,a0b]at hb;obtain⟨b1,b2,b3,b4⟩:=hb;split at hE
   ·rename_i y xs hy hxs;simp only[Orr.mk.injEq]at hE;obtain⟨rfl,rfl,e3⟩:=hE;rw[←e3];have hpat:=atw _ _ b4;have hnd:=bfo b2;obtain⟨hrz,hlv⟩:=azb h ks Z.os xs hxs;have hkl:=mb.keys _ _ _ hrz;rw[am5,aga]at b1 hy;rw[arb,aga]at hpat;have hsplit:us=us.take Z.as.length++us.drop Z.as.length:=(a1x _ _).symm
    obtain⟨A,hA1,hA2,hA3,hargs,hback⟩:∃A:Nat->Prop,(∀b,Imm F p M w b->A b)/\(∀b,A b->b<w.heap.size)/\(∀k,k∈ks->∀b,p.σ k b->¬A b)/\mg A w (x4 Z.as) Z.as y (us.take Z.as.length)/\
      ∀(w':World)(σ':Nat->Nat->Prop)(zs:nr Z.os),mb (fun b=>b<w'.heap.size/\(A b\/(∃j,j∈ks/\p.σ j b)\/w.heap.size<=b)/\∀k,k∈ks->¬σ' k b) w' p.β σ' ks Z.os zs->
       mb (fun b=>b<w'.heap.size/\(Imm F p M w b\/(∃j,j∈ks/\p.σ j b)\/w.heap.size<=b)/\∀k,k∈ks->¬σ' k b) w' p.β σ' ks Z.os zs:=by
     have hlen1:(us.take Z.as.length).length=(vs.take Z.as.length).length:=by rw[a03,a03,hlen]
     have hrel1:∀(i:Nat) v u,(vs.take Z.as.length)[i]? = some v->(us.take Z.as.length)[i]? = some u->ao p.β M (Imm F p M w) w v u:=fun i v u hv hu=>by
      rw[a1d]at hv hu;split at hv
      ·rename_i hi;rw[a0a hi]at hu;exact hrel i v u hv hu
      ·cases hv
     unfold bxg at hy
     cases hfl:Z.fl with
     |false=>rw[hfl]at hy;simp only[a0j]at hy;exact⟨Imm F p M w,fun _ h=>h,fun b hb=>hb.1,fun k hk b hb hi=>hi.2.2.2 k (hlv k hk) hb,auo h _ _ _ _ _ hlen1 hrel1 b1 hy,fun _ _ _ r=>r⟩
     |true=>
      rw[hfl]at hy;simp only[a0d]at hy
      cases haf:bjs Z.os with
      |false=>rw[haf]at hy;cases hy
      |true=>
       rw[haf]at hy;simp only[a0d]at hy
       refine⟨fun b=>Imm F p M w b\/∃j,j∉ks/\c6 M j/\p.σ j b,fun _ h=>.inl h,fun b hb=>hb.elim (fun h=>h.1) (fun⟨j,_,j2,j3⟩=>(h.own j b j2 j3).1),fun k hk b hb hi=>hi.elim (fun hi=>hi.2.2.2 k (hlv k hk) hb) (fun⟨j,j1,j2,j3⟩=>h.sep k j b (fun e=>j1 (e▸hk)) (hlv k hk) j2 hb j3),
        bfk h (fun j ob hj=>(awt ks M ob hj).1) (fun _ h=>.inl h) (fun j b hj hb=>?_) _ _ _ _ _ hlen1 hrel1 b1 hy,fun _ _ _ r=>bud _ _ _ haf r⟩
       unfold c6 at hj
       cases hg:go (mn ks M) j with
       |none=>rw[hg]at hj;cases hj
       |some ob=>exact .inr ⟨j,(awt ks M ob hg).2,cq (awt ks M ob hg).1,hb⟩
    have hrun:=hz A w p.β M ks p.σ xs y (us.take Z.as.length) (us.drop Z.as.length) (fun g hg=>by obtain⟨e1,e2⟩:=aq1 hG h hL g hg;exact⟨hA1 _ e1,e2⟩) hA2 hnd hxs (fun k hk b hb=>⟨(h.own k b (hlv k hk) hb).1,hA3 k hk b hb⟩)
     (fun k k' hk hk' hne b hb=>h.sep k k' b hne (hlv k hk) (hlv k' hk') hb) (bm1 hA1 _ _ _ hrz) hargs (by rw[←hpat,a13,a13,hlen])
     (fun i v u hv hu=>by rw[←hpat,a1l]at hv;rw[a1l]at hu;exact ao.keep (fun b hb=>⟨hA1 b hb,rfl⟩) (fun _ _ _ r=>r) (fun _ _ _ r=>r) _ _ (hrel _ v u hv hu)) hv
    rw[←hsplit]at hrun;refine hrun.mono fun e w' ⟨σ',h1,h2,h3,h4,h5⟩=>⟨_,h1,?_⟩;replace h5:=hback w' σ' _ h5;have hlen':=hkl
    obtain⟨p1,t1,l1⟩:=bwb (L:=ks) (σ':=σ') (T:=fun b=>∃k,k∈ks/\p.σ k b) (S':=fun b=>(∃k,k∈ks/\p.σ k b)\/w.heap.size<=b/\b<w'.heap.size) (M1:=anj (upZ ks Z.os (Z.new xs y)) M) (e:=ae1 (upZ ks Z.os (Z.new xs y))) h h2
     (fun c ⟨k,hk,hc⟩=>⟨k,hk,hlv k hk,hc⟩) (fun c hc=>hc)
     ⟨fun k hk=>by
      obtain⟨o,x,z,a1,a2,a3⟩:=bc1 ks Z.os xs (Z.new xs y) hnd hlv hxs h5 k hk;exact⟨_,_,a1,a2,a3⟩,
      fun k hk c hc=>.inr (h3 k hk c hc),h4,
      fun k hk=>byo _ _ fun q hq e=>hk (e▸brs _ _ _ q hq),
      btc ks Z.os _ hnd hlen',bp1 ks Z.os _,fun k hk π=>by
      rcases bt5 ks Z.os xs (Z.new xs y) hnd hxs k hk π with a|⟨a,o,x,n,c1,c2⟩
      ·exact .inl a
      ·obtain⟨o',x',z',d1,d2,_⟩:=bc1 ks Z.os xs (Z.new xs y) hnd hlv hxs h5 k hk;rw[c1]at d1;cases d1;exact .inr ⟨a,_,_,n,c1,d2,c2,c2⟩⟩ b3
    refine⟨p1,t1,l1,?_,fun hfr _=>?_⟩
    ·rw[cf];simp only[aq]
    ·rw[e3]at hfr;simp[ae1,fresh]at hfr
   ·simp only[Orr.mk.injEq]at hE;exact absurd hE.2.2 (by simp)
end
def ln:Nat->Nat->List Nat
 |0,_=>[]
 |n+1,k=>k::ln n (Nat.succ k)
def z0:Nat:=999900
def akk:List Nat->(os:List O)->nr os->Mem
 |k::ks,o::os,x=>(k,⟨o,x.1⟩)::akk ks os x.2
 |_,_,_=>[]
def okZ:(os:List O)->nr os->List Prop
 |[],_=>[]
 |o::os,x=>ap (o.strip.oks x.1) (okZ os x.2)
def atz(env:Env):Nat->List V->List V
 |_,[]=>[]
 |n,_::r=>gt env n::atz env (Nat.succ n) r
def asn:Nat->List V->List Nat
 |_,[]=>[]
 |n,_::r=>n::asn (Nat.succ n) r
def bev:V->Bool
 |.ad _ _|.bx _|.fn _ _=>true
 |_=>false
def akm(f:V->Bool):List V->Bool
 |[]=>true
 |v::r=>nob (f v) (akm f r)
def bh3(B:Tab)(rs:List ResultVar)(Z:Wz)(K:nr Z.os->Bool->Prop)(env:Env)(M:Mem):Prop:=
 match rs with
 |[r]=>(match bdk B env M r with
  |some (.d .bool b)=>bif aa6 (atz env (len Z.as) (Z.pat (ln (len Z.os) z0))) (Z.pat (ln (len Z.os) z0))then
    (match act M (ln (len Z.os) z0) Z.os with
    |some zs=>K zs b
    |none=>False)else False
  |_=>False)
 |_=>False
def endZ(B:Tab)(rs:List ResultVar)(Z:Wz)(K:nr Z.os->Bool->Prop):Ex->Env->Mem->Prop
 |.ex _,_,_|.go _,_,_=>False
 |.nm,env,M|.rt,env,M=>bh3 B rs Z K env M
def azw(B:Tab)(Φ:FuncId->Option Ct)(cut:Nat->Nat)(fn:Func)(c:Code)(A:Ann)(Z:Wz)(xs:nr Z.os)(y:db Z.as)(K:nr Z.os->Bool->Prop):Prop:=ev B Φ cut c A (endZ B (toL fn.results) Z K) (acj 0 (ap (l7 B (eq (len Z.as) (toL fn.params)) Z.as y) (Z.pat (ln (len Z.os) z0)))) (akk (ln (len Z.os) z0) Z.os xs)
def rho:List Nat->List Nat->Nat->Nat->Nat
 |i::is,k::ks,big,j=>if j=i then k else rho is ks big j
 |_,_,big,_=>big
theorem bop:∀(n k j:Nat),j∈ln n k->k<=j
 |0,_,_,h=>by cases h
 |n+1,k,j,h=>by
  rcases a0t.1 h with e|e
  ·omega
  ·have:=bop n _ j e;omega
theorem bgm:∀(n k:Nat),(ln n k).Nodup
 |0,_=>a46
 |n+1,k=>a3h.2 ⟨fun h=>by have:=bop n _ _ h;omega,bgm n _⟩
theorem bnr:∀(n k:Nat),(ln n k).length=n
 |0,_=>rfl
 |n+1,k=>by simp[ln,bnr n]
theorem bff{big:Nat}:∀(is ks:List Nat),is.Nodup->is.length=ks.length->is.map (rho is ks big)=ks
 |[],[],_,_=>rfl
 |[],_::_,_,h|_::_,[],_,h=>by simp at h
 |i::is,k::ks,hn,h=>by obtain⟨n1,n2⟩:=a3h.1 hn;simp only[a2h,rho,a04];congr 1;rw[←bff (big:=big) is ks n2 (by simpa using h)];refine List.map_congr_left fun j hj=>?_;rw[ds (fun e=>n1 (by rw[←e];exact hj)),bff (big:=big) is ks n2 (by simpa using h)]
theorem awf{big:Nat}:∀(is ks:List Nat)(j:Nat),is.length=ks.length->j∈is->rho is ks big j∈ks
 |[],_,_,_,h=>by cases h
 |i::is,[],_,h,_=>by simp at h
 |i::is,k::ks,j,h,hj=>by
  simp only[rho];by_cases e:j=i
  ·rw[a0a e];exact a1t ..
  ·rw[ds e];exact a1k _ (awf is ks j (by simpa using h) ((a0t.1 hj).resolve_left e))
theorem bn4{big:Nat}:∀(is ks:List Nat)(j j':Nat),ks.Nodup->is.length=ks.length->j∈is->j'∈is->rho is ks big j=rho is ks big j'->j=j'
 |[],_,_,_,_,_,h,_,_=>by cases h
 |i::is,[],_,_,_,h,_,_,_=>by simp at h
 |i::is,k::ks,j,j',hn,h,hj,hj',e=>by
  obtain⟨n1,n2⟩:=a3h.1 hn;simp only[rho]at e;by_cases a:j=i
  ·by_cases b:j'=i
   ·rw[a,b]
   ·rw[a0a a,ds b]at e;exact absurd (e▸awf is ks j' (by simpa using h) ((a0t.1 hj').resolve_left b)) n1
  ·by_cases b:j'=i
   ·rw[ds a,a0a b]at e;exact absurd (e▸awf is ks j (by simpa using h) ((a0t.1 hj).resolve_left a)) n1
   ·rw[ds a,ds b]at e;exact bn4 is ks j j' n2 (by simpa using h) ((a0t.1 hj).resolve_left a) ((a0t.1 hj').resolve_left b) e
theorem bte{M:Mem}{big:Nat}(hb:go M big=none):∀(is ks:List Nat)(os:List O)(xs:nr os),act M ks os=some xs->is.length=ks.length->∀j ob,go M (rho is ks big j)=some ob->go (akk is os xs) j=some ob
 |[],ks,os,xs,_,_,j,ob,h=>by simp only[rho]at h;rw[hb]at h;cases h
 |i::is,[],_,_,_,h,_,_,_=>by simp at h
 |i::is,k::ks,[],_,hg,_,_,_,_=>by simp[act]at hg
 |i::is,k::ks,o::os,xs,hg,hl,j,ob,h=>by
  simp only[act]at hg;split at hg
  ·rename_i ob' hob;split at hg
   ·rename_i x r hx hr;cases hg;have:=xq hx;subst this;simp only[rho]at h;simp only[akk,dn];by_cases e:j=i
    ·rw[a0a e]at h;rw[a0a e.symm,←hob];exact h
    ·rw[ds e]at h;rw[ds (fun e'=>e e'.symm)];exact bte hb is ks os r hr (by simpa using hl) j ob h
   ·cases hg
  ·cases hg
theorem biv{Im:Nat->Prop}{w:World}{β:Nat->Value}{σ:Nat->Nat->Prop}{big:Nat}:∀(is ks:List Nat)(os:List O)(xs:nr os),is.length=ks.length->mb Im w β σ ks os xs->∀j ob,go (akk is os xs) j=some ob->j∈is/\Rel Im w ob.o ob.x (σ (rho is ks big j)) [β (rho is ks big j)]
 |[],_,os,_,_,_,j,ob,h=>by cases os<;>simp[akk,go]at h
 |i::is,[],_,_,h,_,_,_,_=>by simp at h
 |i::is,k::ks,[],_,_,hr,_,_,_=>by simp only[mb]at hr
 |i::is,k::ks,o::os,xs,hl,hr,j,ob,h=>by
  simp only[mb]at hr;simp only[akk,dn]at h;simp only[rho];by_cases e:j=i
  ·rw[a0a e.symm]at h;cases h;rw[a0a e];exact⟨e▸a1t ..,hr.1⟩
  ·rw[ds (fun e'=>e e'.symm)]at h;rw[ds e];obtain⟨a,b⟩:=biv (big:=big) is ks os xs.2 (by simpa using hl) hr.2 j ob h;exact⟨a1k _ a,b⟩
theorem bga{os:List O}{xs:nr os}:∀(is:List Nat)(os:List O)(xs:nr os),is.length=os.length->∀j,j∈is->c6 (akk is os xs) j
 |[],_,_,_,_,h=>by cases h
 |i::is,[],_,h,_,_=>by simp at h
 |i::is,o::os,xs,h,j,hj=>by
  unfold c6;simp only[akk,dn];by_cases e:i=j
  ·rw[a0a e];rfl
  ·rw[ds e];exact bga (os:=os) (xs:=xs.2) is os xs.2 (by simpa using h) j ((a0t.1 hj).resolve_left (fun e'=>e e'.symm))
theorem bfn{Im Im':Nat->Prop}{w:World}{β1 β:Nat->Value}{σ1 σ':Nat->Nat->Prop}{ρ:Nat->Nat}(hI:∀b,Im b->Im' b):∀(is:List Nat)(os:List O)(zs:nr os),(∀j,j∈is->β1 j=β (ρ j)/\σ1 j=σ' (ρ j))->mb Im w β1 σ1 is os zs->mb Im' w β σ' (is.map ρ) os zs
 |[],[],_,_,_=>trivial
 |[],_::_,_,_,r|_::_,[],_,_,r=>by simp only[mb]at r
 |i::is,o::os,zs,h,r=>by simp only[mb,a2h]at r⊢;obtain⟨h1,h2⟩:=h i (a1t ..);exact⟨by rw[←h1,←h2];exact Rel.keep (fun b hb=>⟨hI b hb,rfl⟩) _ _ _ _ (fun _ _=>rfl) r.1,bfn hI is os zs.2 (fun j hj=>h j (a1k _ hj)) r.2⟩
theorem bms{Im:Nat->Prop}{w:World}{β:Nat->Value}{σ:Nat->Nat->Prop}:∀(ks:List Nat)(os:List O)(xs:nr os),mb Im w β σ ks os xs->ab (okZ os xs)
 |[],[],_,_=>trivial
 |k::ks,o::os,xs,r=>by simp only[mb]at r;simp only[okZ,kv];have h1:=Rel.frz (Im':=fun _=>True) (fun _ _=>trivial) o xs.1 (σ k) [β k] (fun _ _=>trivial) r.1;exact⟨me _ _ (aq.ok _ _ _ h1),bms ks os xs.2 r.2⟩
 |[],_::_,_,r|_::_,[],_,r=>by simp only[mb]at r
theorem brw:∀M:Mem,∃big,go M big=none:=fun M=>by
 have:∀M:Mem,∃n,∀k,n<=k->go M k=none:=fun M=>by
  induction M with
  |nil=>exact⟨0,fun _ _=>rfl⟩
  |cons q r ih=>obtain⟨n,hn⟩:=ih;refine⟨n+q.1+1,fun k hk=>?_⟩;obtain⟨i,x⟩:=q;rw[dn,ds (by simp only at hk;omega)];exact hn k (by omega)
 obtain⟨n,hn⟩:=this M;exact⟨n,hn n (a0k _)⟩
theorem aig{f:V->Bool}:∀(l:List V)(i:Nat)(v:V),akm f l=true->l[i]? = some v->f v=true
 |[],_,_,_,h=>by simp at h
 |x::r,0,v,h,e=>by simp only[akm,be,a0b]at h;simp only[a1u,a0e]at e;subst e;exact h.1
 |x::r,i+1,v,h,e=>by simp only[akm,be,a0b]at h;exact aig r i v h.2 (by simpa using e)
theorem bnl{f:V->Bool}:∀(l:List V),bjn f l=true->∃(i:Nat)(v:V),l[i]? = some v/\f v=true
 |[],h=>by cases h
 |x::r,h=>by
  simp only[bjn,lq,a09]at h;rcases h with h|h
  ·exact⟨0,x,rfl,h⟩
  ·obtain⟨i,v,h1,h2⟩:=bnl r h;exact⟨i+1,v,by simpa using h1,h2⟩
theorem bna:∀(ks:List Nat)(vs:List V),bco ks vs=true->∀k,k∈ks->bjn (ang k) vs=true
 |[],_,_,_,h=>by cases h
 |j::ks,vs,h,k,hk=>by
  simp only[bco,be,a0b]at h;rcases a0t.1 hk with e|e
  ·subst e;exact h.1
  ·exact bna ks vs h.2 k e
theorem bky{env:Env}:∀(n:Nat)(l:List V)(i:Nat),i<l.length->(atz env n l)[i]? = some (gt env (n+i))
 |_,[],_,h=>by simp at h
 |n,v::r,0,_=>rfl
 |n,v::r,i+1,h=>by simp only[atz,a2i];rw[bky (Nat.succ n) r i (by simpa using h)];congr 2;omega
theorem bmt:∀(n:Nat)(l:List V)(i:Nat),i<l.length->x7 (n+i) (asn n l)=true
 |_,[],_,h=>by simp at h
 |n,v::r,0,_=>by simp[asn,x7]
 |n,v::r,i+1,h=>by have:=bmt (Nat.succ n) r i (by simpa using h);rw[show n+(i+1)=Nat.succ n+i by omega];simp only[asn,x7];rw[this];simp
theorem az6:∀(l:List V),aa6 l l=true->akm (fun v=>ny v v) l=true
 |[],_=>rfl
 |v::r,h=>by simp only[aa6,be,a0b]at h;simp only[akm,be,a0b];exact⟨h.1,az6 r h.2⟩
theorem ays{β:Nat->Value}{M:Mem}{Im:Nat->Prop}{w:World}{v:V}{u:Value}(h:bev v=true):ao β M Im w v u<->ak β M Im w v [u]:=by
 cases v with
 |ad _ _|bx _|fn _ _=>simp only[ao]
 |_=>cases h
theorem cbb{ρ:Nat->Nat}{v:V}(h:bev v=true):bev (aag ρ v)=true:=by cases v<;>first|rfl|cases h
section
variable {P:Program} {B:Tab} {Φ:FuncId->Option Ct}
theorem z_of (hΦ : uf P Φ) (hB : TabOk P B) (hmix : P.follows .mixedOrders = true) {f : FuncId} {fn : Func} {c : Code} (hf : P.funcs[f]? = some fn) (hb : fn.body = some c) (hn : (fn.name == "runtime.NumGoroutine") = false) (Z : Wz) (A : Ann) (cut : Nat -> Nat)
  (hpat:∀ρ:Nat->Nat,Z.pat ((ln (len Z.os) z0).map ρ)=(Z.pat (ln (len Z.os) z0)).map (aag ρ)) (hvs:aa6 (Z.pat (ln (len Z.os) z0)) (Z.pat (ln (len Z.os) z0))=true) (hwf:akm wfV (Z.pat (ln (len Z.os) z0))=true) (hone:akm bev (Z.pat (ln (len Z.os) z0))=true) (hocc:bco (ln (len Z.os) z0) (Z.pat (ln (len Z.os) z0))=true)
  (hga:x4 Z.as=(eq (len Z.as) (toL fn.params)).map (fun q=>(B.τ q).agg)) (hck:okC fn.ntmps cut c=true) (hnt:Z.as.length+(Z.pat (ln (len Z.os) z0)).length<=fn.ntmps) (hnw:noW (asn (len Z.as) (Z.pat (ln (len Z.os) z0))) c=true)
  (hw:∀xs y,ab (okZ Z.os xs)->ab (okL Z.as y)->ab (Z.pre xs y)->azw B Φ cut fn c A Z xs y (fun zs b=>zs=Z.new xs y/\b=Z.res xs y)):bw P f (zCt Z):=by
 refine bxt (t6 hf hb hn) fun Ab w β M ks σ xs y us0 us1 hE hAlt hnd hgz hS hdis hrz hargs hl1 hr1 hpre=>?_;have hkl:=mb.keys _ _ _ hrz;generalize hids:ln (len Z.os) z0=ids at hpat hvs hwf hone hocc hnt hnw;have hidn:ids.Nodup:=by rw[←hids];exact bgm _ _
 have hidl:ids.length=Z.os.length:=by rw[←hids,bnr,aga]
 obtain⟨big,hbig⟩:=brw M;have hil:ids.length=ks.length:=by omega
 have hkm:=bff (big:=big) ids ks hidn hil;generalize hρ:rho ids ks big=ρ at hkm;have hrg:∀j ob,go M (ρ j)=some ob->go (akk ids Z.os xs) j=some ob:=by rw[←hρ];exact bte hbig ids ks Z.os xs hgz hil
 have hmr:∀j ob,go (akk ids Z.os xs) j=some ob->j∈ids/\Rel Ab w ob.o ob.x (σ (ρ j)) [β (ρ j)]:=by rw[←hρ];exact biv ids ks Z.os xs hil hrz
 have hrm:∀j,j∈ids->ρ j∈ks:=by rw[←hρ];exact fun j hj=>awf ids ks j hil hj
 have hri:∀j j',j∈ids->j'∈ids->ρ j=ρ j'->j=j':=by rw[←hρ];exact fun j j'=>bn4 ids ks j j' hnd hil
 have hks:∀k,k∈ks->∃j,j∈ids/\ρ j=k:=fun k hk=>by rw[←hkm]at hk;exact a2c.1 hk
 have hpatk:Z.pat ks=(Z.pat ids).map (aag ρ):=by rw[←hkm];exact hpat ρ
 have hmlive:=bga (os:=Z.os) (xs:=xs) ids Z.os xs hidl;have he:=hw xs y (bms _ _ _ hrz);unfold azw at he;rw[hids]at he;generalize hM0:akk ids Z.os xs=M0 at hrg hmr hmlive he
 have hlv:∀j,c6 M0 j->j∈ids:=fun j hj=>by
  unfold c6 at hj
  cases hg:go M0 j with
  |none=>rw[hg]at hj;cases hj
  |some ob=>exact (hmr j ob hg).1
 rw[aga]at hnw;have hlu:us1.length=(Z.pat ids).length:=by rw[hl1,hpatk,a00]
 let a0:Act:={ tmps:=(us0++us1).toArray++Array.replicate (fn.ntmps-(us0++us1).toArray.size) undef,defers:=[] }
 let F:Fr:=⟨w,w,Ab,fun b=>∃k,k∈ks/\σ k b,fun _=>False,fn.ntmps,ad9 (fun _=>none) (asn Z.as.length (Z.pat ids)) a0,True⟩
 let p0:Ow:=⟨fun i=>β (ρ i),fun i=>σ (ρ i),fun _=>False⟩
 have himm:∀b,Ab b->Imm F p0 M0 w b:=fun b hb=>⟨hAlt b hb,.inl hb,fun h=>h,fun k hk hs=>(hS _ (hrm k (hlv k hk)) b hs).2 hb⟩;obtain⟨l1,l2,l3,l4⟩:=ae2 (B:=B) (β:=p0.β) (M:=M0) himm (x4 Z.as) Z.as y us0 hargs (eq (len Z.as) (toL fn.params)) 0 (by rw[hga];exact (agk _).symm)
 have hfl:(x4 Z.as).length=Z.as.length:=by
  have:∀l:List T,(x4 l).length=l.length:=fun l=>by
   induction l with
   |nil=>rfl
   |cons t r ih=>simp[x4,ih]
  exact this _
 rw[hfl]at l1 l2;have he:=he l3 hpre;have hszl:(us0++us1).length<=fn.ntmps:=by rw[a0m];omega
 have hsz:a0.tmps.size=fn.ntmps:=by simp[a0];omega
 have hget:∀t,t<(us0++us1).length->a0.tmps.getD t undef=(us0++us1).getD t undef:=fun t ht=>by simp only[a0];rw[a3v,a3u (by simpa using ht)];simp[a0l]
 have hp0:Hp F p0 M0 w:=⟨fun k ob hk=>Rel.keep (fun b hb=>⟨himm b hb,rfl⟩) _ _ _ _ (fun _ _=>rfl) (hmr k ob hk).2,
  fun k k' b hne hk hk' hb=>hdis _ _ (hrm k (hlv k hk)) (hrm k' (hlv k' hk')) (fun e=>hne (hri k k' (hlv k hk) (hlv k' hk') e)) b hb,
  fun k b hk hs=>⟨(hS _ (hrm k (hlv k hk)) b hs).1,.inr (.inr ⟨trivial,_,hrm k (hlv k hk),hs⟩)⟩,fun b hb=>hb.elim,rfl,⟨rfl,a0k _⟩,rfl,a0k _,fun b _ _=>rfl⟩
 have hsame:=az6 _ hvs;have hpats:∀(i:Nat) v u,(Z.pat ids)[i]? = some v->us1[i]? = some u->ak p0.β M0 (Imm F p0 M0 w) w v [u]:=fun i v u hv hu=>by have h1:=hr1 i (aag ρ v) u (by rw[hpatk,a1r,hv];rfl) hu;have h2:=(ays (cbb (aig _ i v hone hv))).1 h1;exact ap0 hrg himm v [u] (aig (f:=fun v=>ny v v) _ i v hsame hv) h2
 have hst:St F p0 (acj 0 (ap (l7 B (eq (len Z.as) (toL fn.params)) Z.as y) (Z.pat ids))) M0 a0 w:=by
  refine⟨rfl,hsz,fun t v ht=>?_,fun b hb=>hb.elim,fun b hb=>hb,fun t=>?_,hp0⟩
  ·simp only[F,ad9]at ht
   cases hm:x7 t (asn Z.as.length (Z.pat ids))with
   |true=>rw[hm]at ht;simpa using ht
   |false=>rw[hm]at ht;cases ht
  ·rw[alx];simp only[a1j,a04,a3t,mj];by_cases h1:t<Z.as.length
   ·rw[a1f (by omega),hget t (by rw[a0m];omega),a0l,a1f (by omega)];have e1:=a0p (l:=l7 B (eq (len Z.as) (toL fn.params)) Z.as y) (i:=t) (by omega);have e2:=a0p (l:=us0) (i:=t) (by omega);rw[e1,e2];exact l4 t _ _ e1 e2
   ·rw[a1s (by omega),l2]
    cases hx:(Z.pat ids)[t-Z.as.length]? with
    |none=>simp only[a2w,ao]
    |some v=>have ht:=(a1i.1 hx).1;have e2:=a0p (l:=us1) (i:=t-Z.as.length) (by omega);rw[hget t (by rw[a0m];omega),a0l,a1s (by omega),l1,e2];simp only[a1n];exact (ays (aig _ _ v hone hx)).2 (hpats _ v _ hx e2)
 refine a4f hf hb (a2u (fun e a' w' he=>?_) (aad hΦ hB hmix cut c F (hE.of fun b hb _=>⟨⟨hb,fun⟨k,hk,hs⟩=>(hS k hk b hs).2 hb⟩,rfl⟩) A _ _ _ hck (tn c hnw (q9 c)) he p0 _ w hst))
 have key:∀p env M1,St F p env M1 a' w'->bh3 B (toL fn.results) Z (fun zs b=>zs=Z.new xs y/\b=Z.res xs y) env M1->(e=.normal\/e=.ret)->bodyPost P fn (fun e w'=>∃σ':Nat->Nat->Prop,e=.returned (.bool (Z.res xs y))/\ExtS w w' (fun b=>∃k,k∈ks/\σ k b)/\(∀k,k∈ks->∀b,σ' k b->(∃j,j∈ks/\σ j b)\/w.heap.size<=b/\b<w'.heap.size)/\
   (∀k k',k∈ks->k'∈ks->k≠k'->∀b,σ' k b->¬σ' k' b)/\
   mb (fun b=>b<w'.heap.size/\(Ab b\/(∃j,j∈ks/\σ j b)\/w.heap.size<=b)/\∀k,k∈ks->¬σ' k b) w' β σ' ks Z.os (Z.new xs y)) e a' w':=by
  intro p env M1 hs hr hee;unfold bh3 at hr;rw[hids]at hr;split at hr
  ·rename_i r hrs;split at hr
   ·rename_i b hrv
    cases hvl:aa6 (atz env (len Z.as) (Z.pat ids)) (Z.pat ids)with
    |false=>rw[hvl]at hr;exact hr.elim
    |true=>
     rw[hvl]at hr;simp only[a0d]at hr;split at hr
     ·rename_i zs hzs;obtain⟨rfl,hbe⟩:=hr;have hsl:=atw _ _ hvl;obtain⟨u,u1,u2⟩:=bcz (P:=P) (a:=a') hB hs.hp hs.slots r _ hrv;rw[cf,jy]at u2;subst u2;have hrun:(results fn a'.tmps).run P w'=.ok (.bool b) w':=by rw[ag9,a4g];rw[ew]at hrs;rw[hrs];simp only[a4u,List.mapM_nil,a1q,a4h,u1,a14,a2l];simp
      have hRold:∀c,Imm F p0 M0 w c->w'.heap[c]? = w.heap[c]?:=fun c hc=>hs.hp.old c hc.1 fun⟨k,hk,hsk⟩=>by obtain⟨j,hj,rfl⟩:=hks k hk;exact hc.2.2.2 j (hmlive j hj) hsk
      have adr:∀{p:Ow} {M:Mem} {w:World},Hp F p M w->∀k u,Adr p.β M w k [.de] u->u=p.β k:=fun hp k u hu=>by have hu':=hu;obtain⟨ob,_,_,_,hg,_⟩:=hu;exact am9 hp hg (v0:=.ad k [.de]) rfl (e:=[]) rfl (by simp only[V.evs,ao,ak];exact⟨u,rfl,hu'⟩)
      have hβ:∀j,j∈ids->p.β j=β (ρ j):=fun j hj=>by
       obtain⟨i,v,hv,ho⟩:=bnl _ (bna _ _ hocc j hj);have hi:=(a1i.1 hv).1;have e2:=a0p (l:=us1) (i:=i) (by omega);have r1:=hpats i v _ hv e2;have r2:=hs.slots (Z.as.length+i);have e3:gt env (Z.as.length+i)=v:=by have:=bky (env:=env) (len Z.as) (Z.pat ids) i hi;rw[hsl,hv,aga]at this;exact (a28 this).symm
       have e4:a'.tmps.getD (Z.as.length+i) undef=us1[i]:=by
        have hfv:F.fv (Z.as.length+i)=some (a0.tmps.getD (Z.as.length+i) undef):=by simp only[F,ad9,bmt Z.as.length (Z.pat ids) i hi,a0d]
        rw[hs.fix _ _ hfv,hget _ (by rw[a0m];omega),a0l,a1s (by omega),l1,a4q,e2];rfl
       rw[e3,e4]at r2;have r2:=(ays (aig _ i v hone hv)).1 r2;exact (pin (adr hp0) (adr hs.hp) hRold v _ (aig (f:=fun v=>ny v v) _ i v hsame hv) (aig _ i v hwf hv) r1 r2 j ho).symm
      obtain⟨q1,q2⟩:=azb hs.hp ids Z.os _ hzs
      have hreg:∀j,j∈ids->∀c,p.σ j c->((∃k,k∈ks/\σ k c)\/w.heap.size<=c/\c<w'.heap.size):=fun j hj c hc=>by
       have:=hs.hp.own j c (q2 j hj) hc;rcases this.2 with⟨_,h1⟩|h1
       ·exact .inl h1
       ·exact h1.elim (fun h1=>.inr ⟨h1,this.1⟩) (fun h1=>.inl h1.2)
      have hpost:∃σ':Nat->Nat->Prop,Ending.returned (.bool b)=.returned (.bool (Z.res xs y))/\ExtS w w' (fun b=>∃k,k∈ks/\σ k b)/\(∀k,k∈ks->∀b,σ' k b->(∃j,j∈ks/\σ j b)\/w.heap.size<=b/\b<w'.heap.size)/\
        (∀k k',k∈ks->k'∈ks->k≠k'->∀b,σ' k b->¬σ' k' b)/\
        mb (fun b=>b<w'.heap.size/\(Ab b\/(∃j,j∈ks/\σ j b)\/w.heap.size<=b)/\∀k,k∈ks->¬σ' k b) w' β σ' ks Z.os (Z.new xs y):=by
       refine⟨fun k c=>∃j,j∈ids/\ρ j=k/\p.σ j c,by rw[hbe],⟨hs.hp.os,hs.hp.tape,hs.hp.output,hs.hp.size,fun c hc hn=>hs.hp.old c hc hn⟩,fun k _ c ⟨j,hj,_,hc⟩=>hreg j hj c hc,fun k k' _ _ hne c ⟨j,hj,ej,hc⟩ ⟨j',hj',ej',hc'⟩=>?_,?_⟩
       ·refine hs.hp.sep j j' c (fun e=>hne ?_) (q2 j hj) (q2 j' hj') hc hc';rw[←ej,←ej',e]
       ·rw[←hkm];refine bfn (fun c hc=>⟨hc.1,by rw[hkm];exact hc.2.1,fun k _ ⟨j,hj,_,hs'⟩=>hc.2.2.2 j (q2 j hj) hs'⟩) ids Z.os _ (fun j hj=>⟨hβ j hj,?_⟩) q1
        funext c
        exact propext ⟨fun h=>⟨j,hj,rfl,h⟩,fun⟨j',hj',e,h⟩=>hri j' j hj' hj e▸h⟩
      rcases hee with rfl|rfl
      ·exact⟨hs.defers,_,hrun,hpost⟩
      ·exact⟨hs.defers,_,hrun,hpost⟩
     ·exact hr.elim
   ·exact hr.elim
  ·exact hr.elim
 cases e with
 |normal=>obtain⟨p,env,M,h1,h2⟩:=he;exact key p env M h1 h2 (.inl rfl)
 |ret=>obtain⟨p,env,M,h1,h2⟩:=he;exact key p env M h1 h2 (.inr rfl)
 |exit id|goto l=>obtain⟨p,env,M,h1,h2⟩:=he;exact h2.elim
 |panic ch|outgrown=>exact he.elim
theorem bwo (hΦ : uf P Φ) (hB : TabOk P B) (hmix : P.follows .mixedOrders = true) {f : FuncId} {fn : Func} {c : Code} (hf : P.funcs[f]? = some fn) (hb : fn.body = some c) (hn : (fn.name == "runtime.NumGoroutine") = false) (Z : Wz) (A : Ann) (cut : Nat -> Nat)
  (hpat:∀ρ:Nat->Nat,Z.pat ((ln (len Z.os) z0).map ρ)=(Z.pat (ln (len Z.os) z0)).map (aag ρ)) (hvs:aa6 (Z.pat (ln (len Z.os) z0)) (Z.pat (ln (len Z.os) z0))=true) (hwf:akm wfV (Z.pat (ln (len Z.os) z0))=true) (hone:akm bev (Z.pat (ln (len Z.os) z0))=true) (hocc:bco (ln (len Z.os) z0) (Z.pat (ln (len Z.os) z0))=true)
  (hga:x4 Z.as=(eq (len Z.as) (toL fn.params)).map (fun q=>(B.τ q).agg)) (hck:okC fn.ntmps cut c=true) (hnt:Z.as.length+(Z.pat (ln (len Z.os) z0)).length<=fn.ntmps) (hnw:noW (asn (len Z.as) (Z.pat (ln (len Z.os) z0))) c=true)
  (Wf:nr Z.os->db Z.as->(nr Z.os->Bool->Prop)->Prop) (he:∀xs y K,azw B Φ cut fn c A Z xs y K=Wf xs y K) (hw:∀xs y,ab (okZ Z.os xs)->ab (okL Z.as y)->ab (Z.pre xs y)->Wf xs y (fun zs b=>zs=Z.new xs y/\b=Z.res xs y)):bw P f (zCt Z):=
 z_of hΦ hB hmix hf hb hn Z A cut hpat hvs hwf hone hocc hga hck hnt hnw fun xs y h1 h2 h3=>(he xs y _).mpr (hw xs y h1 h2 h3)
def zT(Z:Wz)(fn:Func)(c:Code):Bool:=aa6 (Z.pat (ln (len Z.os) z0)) (Z.pat (ln (len Z.os) z0))&&(akm wfV (Z.pat (ln (len Z.os) z0))&&(akm bev (Z.pat (ln (len Z.os) z0))&&(bco (ln (len Z.os) z0) (Z.pat (ln (len Z.os) z0))&&(Nat.ble (Z.as.length+(Z.pat (ln (len Z.os) z0)).length) fn.ntmps&&noW (asn (len Z.as) (Z.pat (ln (len Z.os) z0))) c))))
theorem cd0 (hΦ : uf P Φ) (hB : TabOk P B) (hmix : P.follows .mixedOrders = true) {f : FuncId} {fn : Func} {c : Code} (hf : P.funcs[f]? = some fn) (hb : fn.body = some c) (hn : (fn.name == "runtime.NumGoroutine") = false) (Z : Wz) (A : Ann) (cut : Nat -> Nat)
  (hpat:∀ρ:Nat->Nat,Z.pat ((ln (len Z.os) z0).map ρ)=(Z.pat (ln (len Z.os) z0)).map (aag ρ))
  (hga:x4 Z.as=(eq (len Z.as) (toL fn.params)).map (fun q=>(B.τ q).agg)) (hck:okC fn.ntmps cut c=true) (h:zT Z fn c=true)
  (Wf:nr Z.os->db Z.as->(nr Z.os->Bool->Prop)->Prop) (he:∀xs y K,azw B Φ cut fn c A Z xs y K=Wf xs y K) (hw:∀xs y,ab (okZ Z.os xs)->ab (okL Z.as y)->ab (Z.pre xs y)->Wf xs y (fun zs b=>zs=Z.new xs y/\b=Z.res xs y)):bw P f (zCt Z):=by
 simp only[zT,a0b]at h;exact bwo hΦ hB hmix hf hb hn Z A cut hpat h.1 h.2.1 h.2.2.1 h.2.2.2.1 hga hck (a08 h.2.2.2.2.1) h.2.2.2.2.2 Wf he hw
theorem cb1{f:FuncId}{Z:Wz}(hc:ahw P f)(h:∀xs y,¬ab (Z.pre xs y)):bw P f (zCt Z):=bxt hc fun _ _ _ _ _ _ xs y _ _ _ _ _ _ _ _ _ _ _ _ hp=>absurd hp (h xs y)
end
end Go.Bm
/- The ff machine:a function that writes what lies in a box,handed an address within it. -/
namespace Go.Bm
open Go.RowKit
section
variable {F:Fr} {a:Act} {w:World} {P:Program} {B:Tab} {Φ:FuncId->Option Ct}
end
end Go.Bm
/- The ff machine:a function that writes what lies in a box that closures among its arguments hold. -/
namespace Go.Bm
open Go.RowKit
section
variable {F:Fr} {p:Ow} {M:Mem} {a:Act} {w:World} {P:Program} {B:Tab} {Φ:FuncId->Option Ct}
end
end Go.Bm
