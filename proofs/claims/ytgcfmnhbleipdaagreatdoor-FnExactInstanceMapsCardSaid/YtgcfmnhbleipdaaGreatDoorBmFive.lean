/- The typed machine that the walks of this claim go by: its data, its operations and the proof that each is sound. No condition. -/
import Derived.Test.YtgcfmnhbleipdaaGreatDoorBmFour
import Derived.Scope
import Derived.OpenShut
import Derived.ChangeSlices
import Derived.SizedLaws
import Derived.Below
import Derived.ProofKit
import Derived.ShutString
import Derived.ChangeOld
set_option linter.unusedVariables false
set_option linter.unusedSimpArgs false
set_option linter.unusedSectionVars false
/- The du machine:calls that give this or that;drawn regions whose operations are put into another order. -/
namespace Go.Bm
open Go.RowKit
abbrev a4f:=@calls_of_wp
abbrev a4g:=@Array.mapM_eq_mapM_toList
abbrev a4h:=@List.all_append
abbrev a3w:=@List.all_cons
abbrev a0r:=@Int.le_refl
abbrev a4y:=@of_decide_eq_false
abbrev a2e:=@List.sum_cons
abbrev a3x:=@Bool.eq_iff_iff
abbrev a4z:=@Array.getElem?_append
section
variable {F:Fr} {p p' p'':Ow} {env env':Env} {M M' M'':Mem} {a a':Act} {w w' w'':World} {P:Program} {B:Tab} {Φ:FuncId->Option Ct}
theorem bcj{o:Oper}{q:Spl}(h:aqv Φ o env M=some q):∃ct,Φ q.f=some ct/\ct.mu=some (.s q.s):=by
 unfold aqv at h;split at h
 ·split at h
  ·split at h
   ·split at h
    ·rename_i hct _;split at h
     ·rename_i hmu;split at h
      ·simp only[a0d]at h;subst h;exact⟨_,hct,hmu⟩
      ·cases h
     ·cases h
    ·cases h
   ·cases h
  ·cases h
 ·cases h
theorem bcf(hΦ:z7 P Φ){f:FuncId}{ct:Ct}(h:bn P f ct):z7 P (bhy Φ f ct):=by
 intro g c hg;unfold bhy at hg
 cases hb:Nat.beq g f with
 |true=>rw[hb]at hg;simp only[a0c,a0d]at hg;rw[←hg,a0v hb];exact h
 |false=>rw[hb]at hg;exact hΦ g c hg
theorem bmc{Im Im':Nat->Prop}{w:World}(hI:∀b,Im b->Im' b):(rt:List (Bool×O))->(x:je rt)->(S:Nat->Prop)->(us:List Value)->(∀b,S b->Im' b)->ji Im w rt x S us->ji Im' w (fzL rt) (fzX rt x) (fun _=>False) us
 |[],_,_,_,_,h=>h
 |q::r,x,S,us,hS,h=>by obtain⟨u,us',vs,S1,S2,h1,h2,h3,h4,h5,_,h7,h8⟩:=h;refine⟨u,us',vs,fun _=>False,fun _=>False,h1,h2,h3,fun _ h=>h.elim,fun _ h=>h.elim,fun _ h=>h.elim,?_,bmc hI r x.2 S2 us' (fun b hb=>hS b (h5 b hb)) h8⟩;simp only[Rel];exact Rel.frz hI q.2 x.1 S1 vs (fun b hb=>hS b (h4 b hb)) h7
theorem bt0{f:FuncId}{ct:Ct}(h:bn P f ct)(hm:ct.mu=none):bn P f (fzCt ct):=by obtain⟨h1,h2⟩:=h;rw[hm]at h2;refine⟨h1,fun A w us x hE hA hr hp=>?_⟩;refine (h2 A w us x hE hA hr hp).mono fun e w' he=>?_;obtain⟨rs,S,q1,q2,q3,q4⟩:=he;refine⟨rs,fun _=>False,q1,q2,fun _ h=>h.elim,bmc (fun b hb=>⟨hb.1,hb.2.1.elim (fun h=>.inl ⟨rfl,h.2⟩) .inr,fun h=>h⟩) _ _ S rs (fun b hb=>⟨(q3 b hb).2,.inr (q3 b hb).1,fun h=>h⟩) q4⟩
theorem bn7(hΦ:z7 P Φ):z7 P (biw Φ):=by
 intro f c hc;unfold biw at hc
 cases hf:Φ f with
 |none=>rw[hf]at hc;cases hc
 |some ct=>
  rw[hf]at hc;simp only at hc
  cases hm:ct.mu with
  |none=>rw[hm]at hc;simp only[a0d]at hc;rw[←hc];exact bt0 (hΦ f ct hf) hm
  |some _=>rw[hm]at hc;simp only[a0d]at hc;rw[←hc];exact hΦ f ct hf
theorem bpd{f:FuncId}{ct:Ct}{s:Sp}(h:bn P f ct)(hm:ct.mu=some (.s s))(b:Bool):bn P f (ti s b):=by
 obtain⟨h1,h2⟩:=h;rw[hm]at h2
 cases b with
 |true=>exact⟨h1,h2.1⟩
 |false=>exact⟨h1,h2.2⟩
theorem bjk(hΦ:si P F Φ)(hB:TabOk P B)(all:Array Oper)(Q:Exit->Act->World->Prop)(K:Env->Mem->Prop)(hQ:∀p env M a w,St F p env M a w->K env M->Q .normal a w) :
  ∀(ops:List Oper) (p:Ow) (env:Env) (M:Mem) (a:Act) (w:World),me F.nt ops=true->(∀o∈ops,∀k,o.dst=some k->F.fv k=none)->St F p env M a w->twS B Φ (toL all) ops env M K->wpList P all Q ops a w
 |[],p,env,M,a,w,_,_,h,hk=>hQ p env M a w h hk
 |o::rest,p,env,M,a,w,hc,hfv,h,hk=>by
  simp only[twS]at hk
  cases hb:nob (nogd env) (isN o.guard)with
  |false=>rw[hb]at hk;exact hk.elim
  |true=>
  rw[hb]at hk;simp only[a0c]at hk;simp only[am,a0a]at hb;have hc1:=wx hc (a3f);have ih:∀p' env' M' a' w',St F p' env' M' a' w'->twS B Φ (toL all) rest env' M' K->wpList P all Q rest a' w':=fun p' env' M' a' w' h1 h2=>bjk hΦ hB all Q K hQ rest p' env' M' a' w' (ack hc).2.2.2 (fun o' ho'=>hfv o' (by simp[ho'])) h1 h2
  have step:∀Φ':FuncId->Option Ct,si P F Φ'->twG B Φ' (toL all) [o] env M (fun env M=>twS B Φ (toL all) rest env M K)->wpList P all Q (o::rest) a w:=fun Φ' hΦ' hk'=>by
   have h1:=ai1 (B:=B) (Φ:=Φ') [o] env M (aip hb.1) hk';have hst:=axi hΦ' hB all h h1 hc1 (hfv o (by simp)) Q;unfold wpList;split at hst
   ·rename_i hw;rw[d0 hw];exact hst.imp (a3e (fun a' w' ⟨p',env',M',h1,h2⟩=>ih p' env' M' a' w' h1 h2)) id
   ·rename_i hw;rw[ds hw];obtain⟨p',env',M',h1,h2⟩:=hst;exact ih p' env' M' _ w h1 h2
  cases hs:aqv Φ o env M with
  |none=>rw[hs]at hk;exact step Φ hΦ hk
  |some q=>
   rw[hs]at hk;simp only at hk;obtain⟨ct,e1,e2⟩:=bcj hs
   cases hq:q.b with
   |true=>exact step _ ⟨bcf hΦ.1 (bpd (hΦ.1 _ _ e1) e2 true),hΦ.2⟩ (hk.1 hq)
   |false=>exact step _ ⟨bcf hΦ.1 (bpd (hΦ.1 _ _ e1) e2 false),hΦ.2⟩ (hk.2 hq)
theorem btf(hΦ:si P F Φ)(hB:TabOk P B)(all:Array Oper)(Q:Exit->Act->World->Prop)(K:Env->Mem->Prop)(hQ:∀p env M a w,St F p env M a w->K env M->Q .normal a w) :
  ∀(ops:List Oper) (p:Ow) (env:Env) (M:Mem) (a:Act) (w:World),me F.nt ops=true->(∀o∈ops,∀k,o.dst=some k->F.fv k=none)->aeq (toL all) ops env->St F p env M a w->twQ B Φ (toL all) ops env M K->wpList P all Q ops a w:=
 fun _ _ _ _ _ _ _ _ _ _ h=>False.elim h
theorem bp2{α β:Type}(f:α->β)(l:List α):bji f l=l.map f:=by
 induction l with
 |nil=>rfl
 |cons x l ih=>simp only[bji,ih,a05]
theorem azz{σ:List Nat}{o:Oper}{e:Edge}:e∈(alz σ o).after<->∃e'∈o.after,e=bmo σ e':=by unfold alz;simp only[bp2,dh,List.mem_toArray,a2d,a17];exact⟨fun⟨a,h1,h2⟩=>⟨a,h1,h2.symm⟩,fun⟨a,h1,h2⟩=>⟨a,h1,h2.symm⟩⟩
theorem ase{σ:List Nat}{l:List Oper}{o':Oper}:∀{ks:List Nat},o'∈abq σ l ks->∃o∈l,o'=alz σ o
 |[],h=>by cases h
 |k::r,h=>by
  simp only[abq]at h;split at h
  ·rename_i o ho;rcases a0s.1 h with h|h
   ·rw[ab9]at ho;exact⟨o,a3a ho,h⟩
   ·exact ase h
  ·exact ase h
theorem bcn{σ:List Nat}{l:List Oper}:∀{ks:List Nat},(∀k∈ks,k<l.length)->(abq σ l ks).length=ks.length/\∀(j i:Nat) (o:Oper),ks[j]? = some i->l[i]? = some o->(abq σ l ks)[j]? = some (alz σ o)
 |[],_=>⟨rfl,fun j i o h=>by simp at h⟩
 |k::r,h=>by
  obtain⟨h1,h2⟩:=bcn (σ:=σ) (l:=l) (ks:=r) fun x hx=>h x (by simp[hx]);have hk:=h k (by simp);obtain⟨o,ho⟩:∃o,l[k]? = some o:=⟨_,a0o hk⟩;have e:abq σ l (k::r)=alz σ o::abq σ l r:=by simp only[abq,ab9,ho]
  rw[e];refine⟨by simp[h1],fun j i o' hj hi=>?_⟩
  cases j with
  |zero=>simp at hj;subst hj;rw[ho]at hi;cases hi;rfl
  |succ j=>simp at hj⊢;exact h2 j i o' hj hi
theorem amz{L:Array Bool}{j:Nat}(h:j<L.size):L.getD j true=L.getD j false:=by simp[h]
structure Perm (ops ops':Array Oper) (σ:List Nat) (n:Nat):Prop where
 s:ops.size=n
 s':ops'.size=n
 f:∀i,i<n->plc σ i<n/\σ[plc σ i]? = some i
 g:∀k,k<n->∃i,σ[k]? = some i/\i<n/\plc σ i=k
 op:∀(k i:Nat) (o:Oper),σ[k]? = some i->ops[i]? = some o->ops'[k]? = some (alz σ o)
 gd:∀(i:Nat) (o:Oper),ops[i]? = some o->o.guard=none
 bk:∀(i:Nat) (o:Oper),ops[i]? = some o->∀e∈o.after,Region.binds .any e=true->e.on<n
theorem Perm.ready{ops ops':Array Oper}{σ:List Nat}{n:Nat}(H:Perm ops ops' σ n){L L':Array Bool}(hL:L.size=n)(hL':L'.size=n)(hr:∀i,i<n->L'.getD (plc σ i) true=L.getD i true){i:Nat}(hi:i<n) :
  i∈Region.ready .any ops L<->plc σ i∈Region.ready .any ops' L':=by
 obtain⟨f1,f2⟩:=H.f i hi;obtain⟨o,ho⟩:∃o,ops[i]? = some o:=⟨_,a23 (by rw[H.s];exact hi)⟩;have ho':=H.op _ _ _ f2 ho;rw[a3s,a3s,hr i hi];constructor
 ·rintro⟨h1,o1,h2,h3⟩;rw[ho]at h2;cases h2;refine⟨h1,_,ho',fun e he hb=>?_⟩;obtain⟨e',k1,rfl⟩:=azz.1 he;have hn:=H.bk i o ho e' k1 hb;have hp:=H.f _ hn;have k2:=h3 e' k1 hb;rw[←amz (by rw[hL];exact hn),←hr _ hn,amz (by rw[hL'];exact hp.1)]at k2;exact k2
 ·rintro⟨h1,o1,h2,h3⟩;rw[ho']at h2;cases h2;refine⟨h1,_,ho,fun e he hb=>?_⟩;have hn:=H.bk i o ho e he hb;have hp:=H.f _ hn;have k2:=h3 (bmo σ e) (azz.2 ⟨e,he,rfl⟩) hb;rw[←amz (by rw[hL];exact hn),←hr _ hn,amz (by rw[hL'];exact hp.1)];exact k2
theorem bhg{ops ops':Array Oper}{σ:List Nat}{n:Nat}{Q:Exit->Act->World->Prop}(H:Perm ops ops' σ n):∀(fuel:Nat) (L L':Array Bool) (a:Act) (w:World),L.size=n->L'.size=n->(∀i,i<n->L'.getD (plc σ i) true=L.getD i true)->
  wpAny P .any ops' Q fuel L' a w->wpAny P .any ops Q fuel L a w:=by
 have nil:∀(L L':Array Bool),L.size=n->L'.size=n->(∀i,i<n->L'.getD (plc σ i) true=L.getD i true)->(Region.ready .any ops L=[]<->Region.ready .any ops' L'=[]):=by
  intro L L' h1 h2 h3;have lt:∀{ops:Array Oper} {L:Array Bool} {i:Nat},i∈Region.ready .any ops L->i<ops.size:=fun h=>by obtain⟨_,o,ho,_⟩:=a3s.1 h;exact (a03.1 ho).1
  constructor
  ·intro h
   cases hr:Region.ready .any ops' L' with
   |nil=>rfl
   |cons k r=>
    have hk:k∈Region.ready .any ops' L':=by rw[hr];simp
    have hkn:=lt hk;rw[H.s']at hkn;obtain⟨i,i1,i2,i3⟩:=H.g k hkn;rw[←i3]at hk;have:=(H.ready h1 h2 h3 i2).2 hk;rw[h]at this;cases this
  ·intro h
   cases hr:Region.ready .any ops L with
   |nil=>rfl
   |cons i r=>
    have hi:i∈Region.ready .any ops L:=by rw[hr];simp
    have hin:=lt hi;rw[H.s]at hin;have:=(H.ready h1 h2 h3 hin).1 hi;rw[h]at this;cases this
 intro fuel
 induction fuel with
 |zero=>intro L L' a w h1 h2 h3 h;exact⟨(nil L L' h1 h2 h3).2 h.1,h.2⟩
 |succ fuel ih=>
  intro L L' a w h1 h2 h3 h;refine⟨fun hn=>h.1 ((nil L L' h1 h2 h3).1 hn),fun i hi=>?_⟩;obtain⟨_,o,ho,_⟩:=a3s.1 hi;have hin:=(a03.1 ho).1;rw[H.s]at hin;have hk:=h.2 _ ((H.ready h1 h2 h3 hin).1 hi);obtain⟨f1,f2⟩:=H.f i hin;have ho':=H.op _ _ _ f2 ho;have hg:=H.gd i o ho
  have e:∀K:Act->World->Prop,wpOp P ops' Q (plc σ i) K a w->wpOp P ops Q i K a w:=by
   intro K hh;unfold wpOp at hh⊢;rw[ho']at hh;rw[ho];have g1:Region.wanted o (yielded ops a.tmps)=true:=by simp[Region.wanted,hg]
   have g2:Region.wanted (alz σ o) (yielded ops' a.tmps)=true:=by simp[Region.wanted,alz,hg]
   simp only[g2,a01]at hh;simp only[g1,a01];exact hh
  refine wpOp_mono (fun a' w' hh=>ih _ _ a' w' (by simpa using h1) (by simpa using h2) (fun j hj=>?_) hh) (e _ hk);by_cases hji:j=i
  ·subst hji;simp[h1,h2,hin,f1]
  ·have hne:plc σ i≠plc σ j:=fun hh=>by have:=(H.f j hj).2;rw[←hh,f2]at this;cases this;exact hji rfl
   rw[a2x true hne,a2x true (a0w hji)];exact h3 j hj
theorem azc:∀{l:List Oper},awb l=true->∀o∈l,o.guard=none
 |[],_,_,h=>by cases h
 |o::r,h,o',ho'=>by
  simp only[awb,am,a0a]at h;rcases a0s.1 ho' with e|e
  ·subst e;have:=h.1
   cases hg:o'.guard with
   |none=>rfl
   |some g=>rw[hg]at this;cases this
  ·exact azc h.2 o' e
theorem axm{α:Type}:∀l:List α,len l=l.length
 |[]=>rfl
 |_::r=>by rw[len,axm r];rfl
theorem bpp(b:Bool):nob b true=b:=by cases b <;> rfl
theorem bd5{l:List Oper}{m i:Nat}(h:i<m)(hf:tc l.length (ew [] l) m i=true):(bax l m).getD i false=true:=by unfold bax;rw[a0n,a1b,a2g h];simp only[a00,a0z,axm];exact hf
theorem bbd:∀e:List Ev,amt [] e=true
 |[]=>rfl
 |x::e=>by
  have h:ahm [] x=true:=by cases x <;> rfl
  simp only[amt,h,bbd e,am,a2r]
theorem ass:∀(ls:List (List Oper)) (fs:List Bool) (l:List Oper) (env:Env) (M:Mem),agk [] [] B Φ ls fs l env M=true
 |_,_,[],_,_=>rfl
 |ls,fs,o::r,env,M=>by have e:al6 []=true:=rfl;simp only[agk,e,bbd,mi,Bool.true_or,a4e,am,a1u];exact ass _ _ r _ _
theorem bg6(hΦ:si P F Φ)(hB:TabOk P B)(hmix:P.follows .mixedOrders=true){R R2:Bool}{Ds:List Bool}{ks as:List Nat}{id:Nat}{ops:Array Oper}{cut:Nat}(hco:me F.nt (im R (toL ops))=true)(hfv:∀o∈toL ops,∀k,o.dst=some k->F.fv k=none)(hr:bi3 R R2 (toL ops) cut=true)(hR:R2=false->ks=[])(hD:∀i,i<cut->tc (im R (toL ops)).length (ew [] (im R (toL ops))) cut i=true->Ds.getD i false=true){K:Env->Mem->Prop}{Q:Exit->Act->World->Prop}
  (hQ:∀p env M a w,St F p env M a w->K env M->Q .normal a w) {p:Ow} {env:Env} {M:Mem} {a:Act} {w:World} (h:St F p env M a w) (hn:y9 env=true)
  (hk:hx Ds ks as B Φ M (fk cut (im R (toL ops))) env [] (fun env X=>bif nob (nogd env) (agk ks as B Φ (ac4 (im R (toL ops)) cut) (adj (im R (toL ops)) cut) (tj cut (im R (toL ops))) env (ap X M))then twG B Φ (im R (toL ops)) (tj cut (im R (toL ops))) env (ap X M) K else False)):(Code.region id ops true).wp P Q a w:=by
 simp only[bi3,a0a]at hr;obtain⟨h1,h2,h3,h4⟩:=hr;simp only[bcw,a0a,a1l,List.mem_range,axm]at h2;obtain⟨⟨p1,p2⟩,p3⟩:=h2;have p1:=a0v p1;have hσ:im R (toL ops)=abq (aui R (toL ops)) (toL ops) (aui R (toL ops)):=rfl;generalize aui R (toL ops)=σ at *
 have hg:∀k,k<(toL ops).length->∃i,σ[k]? = some i/\i<(toL ops).length/\plc σ i=k:=fun k hk=>by
  have:=p3 k hk
  cases hs:m5 σ k with
  |none=>rw[hs]at this;cases this
  |some i=>rw[hs]at this;simp only[a0a,a2y]at this;rw[ab9]at hs;exact⟨i,hs,this.1,a0v this.2⟩
 have hmem:∀k∈σ,k<(toL ops).length:=fun k hk=>by obtain⟨j,hj,rfl⟩:=a2f hk;obtain⟨i,i1,i2,_⟩:=hg j (by omega);rw[a0o hj]at i1;cases i1;exact i2
 obtain⟨g1,g2⟩:=bcn (σ:=σ) (l:=toL ops) hmem;have hsz:(toL ops).length=ops.size:=by rw[dh];simp
 have H:Perm ops ⟨im R (toL ops)⟩ σ ops.size:={
  s:=rfl
  s':=by show (im R (toL ops)).length=ops.size;rw[hσ,g1,p1,hsz]
  f:=fun i hi=>by
   have:=p2 i (by rw[hsz];exact hi);simp only[a2y]at this;refine⟨by rw[←hsz];exact this.1,?_⟩;have h5:=this.2;rw[ab9]at h5
   cases hs:σ[plc σ i]? with
   |none=>rw[hs]at h5;cases h5
   |some k=>rw[hs]at h5;rw[a0v h5]
  g:=fun k hk=>by obtain⟨i,i1,i2,i3⟩:=hg k (by rw[hsz];exact hk);exact⟨i,i1,by rw[←hsz];exact i2,i3⟩
  op:=fun k i o hk ho=>by have:=g2 k i o hk (by rw[dh];simpa using ho);rw[←hσ]at this;simpa using this
  gd:=fun i o ho=>azc h3 o (by rw[dh,a17];exact a3g ho)
  bk:=fun i o ho e he hb=>by have:=aho (toL ops) 0 h1 i o (by rw[dh];simpa using ho) e he hb;have hi:=(a03.1 ho).1;omega }
 refine wp_region_any hmix (bhg H _ _ (Array.replicate ops.size false) a _ (by simp) (by simp) (fun i hi=>?_) ?_)
 ·have:=(H.f i hi).1;simp[hi,this]
 ·have hz:(⟨im R (toL ops)⟩:Array Oper).size=ops.size:=H.s';have:=bbn (F:=F) (ops:=⟨im R (toL ops)⟩) (cut:=cut) (K:=K) (Q:=Q) (P:=P) hΦ hB (by exact hco) (fun o ho k hk=>by obtain⟨o',q1,rfl⟩:=ase (by rw[←hσ];exact ho);exact hfv o' q1 k hk) h4 hR (fun _=>hD) hQ h hn hk;rw[hz]at this;exact this
end
end Go.Bm
/- A drawn region where an allocation may come before an operation that writes,or behind it:both ways are walked. -/
namespace Go.Bm
open Go.RowKit
section
variable {P:Program} {B:Tab} {Φ:FuncId->Option Ct} {F:Fr}
structure AddE (ops ops':Array Oper) (j i:Nat):Prop where
 s:ops'.size=ops.size
 ne:∀k,k≠j->ops'[k]? = ops[k]?
 at_:∀o,ops[j]? = some o->ops'[j]? = some (bo2 i o)
 gd:∀(k:Nat) (o:Oper),ops[k]? = some o->o.guard=none
theorem bsx(hΦ:si P F Φ)(hB:TabOk P B)(hmix:P.follows .mixedOrders=true){id:Nat}{ops:Array Oper}(hfv:∀o∈toL ops,∀k,o.dst=some k->F.fv k=none)(hr:bpt F.nt (toL ops)=true){K:Env->Mem->Prop}{Q:Exit->Act->World->Prop}
  (hQ:∀p env M a w,St F p env M a w->K env M->Q .normal a w) {p:Ow} {env:Env} {M:Mem} {a:Act} {w:World} (h:St F p env M a w)
  (hA:hxT B Φ (bhs (toL ops)) (ab4 0 (toL ops)) env M K) (hB':hxT B Φ (bis (toL ops)) (Nat.succ (ab4 0 (toL ops))) env M K):(Code.region id ops true).wp P Q a w:=by
 exact False.elim hA
end
end Go.Bm
/- The du machine:soundness. -/
namespace Go.Bm
open Go.RowKit
section
variable {P:Program} {B:Tab} {Φ:FuncId->Option Ct}
theorem bp8{F:Fr}{p:Ow}{env:Env}{M:Mem}{a:Act}{w:World}(h:St F p env M a w){t:Nat}(hb:(gt env t).isB=true):a.tmps.getD t undef=.bool (gt env t).boolV:=by obtain⟨b,h1,h2⟩:=anl hb;have:=h.slots t;rw[h1,bd,ef]at this;rw[this,h2]
theorem yx(hΦ:z7 P Φ)(hB:TabOk P B)(hmix:P.follows .mixedOrders=true)(cut:Nat->Nat):(c:Code)->(F:Fr)->agl P F->(A:Ann)->(K:Ex->Env->Mem->Prop)->(env:Env)->(M:Mem)->okC F.nt cut c=true->aea F.fv c->ev B Φ cut c A K env M->
  ∀(p:Ow) (a:Act) (w:World),St F p env M a w->c.wp P (ym F K) a w
 |.skip,F,hG,A,K,env,M,_,_,h,p,a,w,hs=>by simp only[ev]at h;exact wp_skip ⟨p,env,M,hs,h⟩
 |.ret,F,hG,A,K,env,M,_,_,h,p,a,w,hs=>by simp only[ev]at h;exact wp_ret ⟨p,env,M,hs,h⟩
 |.exit id,F,hG,A,K,env,M,_,_,h,p,a,w,hs=>by simp only[ev]at h;exact wp_exit ⟨p,env,M,hs,h⟩
 |.seq x y,F,hG,A,K,env,M,hc,hf,h,p,a,w,hs=>by
  simp only[okC,am,a0a]at hc
  have fin:∀A2:Ann,x.wp P (ym F (bcg (fun env M=>ev B Φ cut y A2 K env M) K)) a w->(Code.seq x y).wp P (ym F K) a w:=fun A2 hw=>by
   refine wp_seq (a2p (fun e a' w' he=>?_) hw)
   cases e with
   |normal=>obtain⟨p',env',M',h1,h2⟩:=he;exact yx hΦ hB hmix cut y F hG A2 K env' M' hc.2 hf.2 h2 p' a' w' h1
   |exit id=>exact he
   |ret=>exact he
   |goto l=>exact he
   |panic c=>exact he.elim
   |outgrown=>exact he.elim
  have nj:∀A:Ann,ev B Φ cut (.seq x y) A K env M=ev B Φ cut x A.fst (bcg (fun env M=>ev B Φ cut y A.snd K env M) K) env M->ev B Φ cut (.seq x y) A K env M->(Code.seq x y).wp P (ym F K) a w:=fun A e h=>by rw[e]at h;exact fin A.snd (yx hΦ hB hmix cut x F hG A.fst _ env M hc.1 hf.1 h p a w hs)
  cases A with
  |n=>exact nj _ (by simp only[ev]) h
  |s A1 A2=>exact nj _ (by simp only[ev]) h
  |l ss os ks A=>exact nj _ (by simp only[ev]) h
  |j ss os ks A=>
   simp only[ev]at h
   cases hb:noW ks x with
   |false=>rw[hb]at h;exact h.elim
   |true=>rw[hb]at h;simp only[a0c,jd]at h;exact fin A.snd (ax9 hs (yx hΦ hB hmix cut x (mkF F (Imm F p M w) w ks a) hG A.fst _ env M hc.1 (p7 x hb hf.1) h p a w (hs.fwd ks)))
 |.region id ops draw,F,hG,A,K,env,M,hc,hf,h,p,a,w,hs=>by
  simp only[okC,am,a0a]at hc;simp only[ev]at h;have hQ:∀p env M a w,St F p env M a w->(fun env M=>K .nm (clr env) M) env M->ym F K .normal a w:=fun p env M a w h1 h2=>⟨p,clr env,M,h1.weak (bc5 env),h2⟩
  cases draw with
  |false=>
   simp only at h;have h1:=hc.1;have h2:∀o∈ops.toList,∀k,o.dst=some k->F.fv k=none:=by rw[←dh];exact hf
   rw[dh]at h1
   cases hsq:Nat.beq (cut id) 1600 with
   |true=>
    rw[hsq]at h;simp only[a0c]at h
    cases hn:nogd env with
    |false=>rw[hn]at h;exact h.elim
    |true=>
    rw[hn]at h;have:=btf (P:=P) ⟨hΦ,hG⟩ hB ops (ym F K) (fun env M=>K .nm (clr env) M) hQ ops.toList p env M a w h1 h2 (aip hn) hs (by rw[←dh ops];exact h);have e:ops=ops.toList.toArray:=by simp
    rw[e];exact wp_region_lit (by simpa using this)
   |false=>
   rw[hsq]at h;simp only[a0g]at h
   cases hsp:Nat.beq (cut id) 1500 with
   |true=>
    rw[hsp]at h;simp only[a0c]at h;have:=bjk (P:=P) ⟨hΦ,hG⟩ hB ops (ym F K) (fun env M=>K .nm (clr env) M) hQ ops.toList p env M a w h1 h2 hs (by rw[←dh ops];exact h);have e:ops=ops.toList.toArray:=by simp
    rw[e];exact wp_region_lit (by simpa using this)
   |false=>
   rw[hsp]at h;simp only[a0g]at h
   cases hn:nogd env with
   |false=>rw[hn]at h;exact h.elim
   |true=>
   rw[hn]at h;replace h:=ai1 (B:=B) (Φ:=Φ) _ _ _ (aip hn) h;have:=bpf (P:=P) ⟨hΦ,hG⟩ hB ops (ym F K) (fun env M=>K .nm (clr env) M) hQ ops.toList p env M a w h1 h2 hs (by rw[←dh ops];exact h);have e:ops=ops.toList.toArray:=by simp
   rw[e];exact wp_region_lit (by simpa using this)
  |true=>
   simp only at h
   cases hbx:Nat.beq (cut id) 999999 with
   |true=>rw[hbx]at h hc;simp only[a0c]at h;have hs1:=vd [] (aib env (toL ops)) M env hs;generalize qk [] (aib env (toL ops)) M env=z at h hs1;obtain⟨env1,M1⟩:=z;exact brr ⟨hΦ,hG⟩ hB hmix hc.1 hf hc.2 hQ hs1 h
   |false=>
   rw[hbx]at h hc;simp only[a0g]at h hc
   cases htw:Nat.beq (cut id) 999998 with
   |true=>rw[htw]at h hc;simp only[a0c]at h hc;exact bsx ⟨hΦ,hG⟩ hB hmix hf hc.2 hQ hs h.1 h.2
   |false=>
   rw[htw]at h hc;simp only[a0g]at h hc
   cases hpq:Nat.ble 10000 (cut id)with
   |true=>
    rw[hpq]at h hc;simp only[a0c]at h hc;generalize mC (cut id)=n at h hc;generalize hrC (cut id)=hr0 at h hc;generalize decK (cut id)=ks at h
    cases hn:y9 env with
    |false=>rw[hn]at h;exact h.elim
    |true=>
    rw[hn]at h;simp only[a0c]at h;have hc2:=hc.2;simp only[am,a0a]at hc2;exact bg6 (R:=hr0) (R2:=true) (ks:=ks) (as:=[]) ⟨hΦ,hG⟩ hB hmix hc2.1 hf hc2.2 (fun h=>by cases h) (fun i hi hfl=>bd5 hi hfl) hQ hs hn h
   |false=>
   rw[hpq]at h hc;simp only[a0g]at h hc
   cases hpm:Nat.ble 2000 (cut id)with
   |true=>
    rw[hpm]at h hc;simp only[a0c]at h hc;generalize Nat.sub (cut id) (bnc (cut id))=n at h hc;generalize (bif Nat.ble 5000 (cut id)then apn env (toL ops)else [])=as at h
    obtain⟨env1,M1,e1,hs1⟩:∃env1 M1,(bif bor (cut id)then qk [] (aib env (toL ops)) M env else (env,M))=(env1,M1)/\St F p env1 M1 a w:=by
     cases bor (cut id)with
     |true=>exact⟨_,_,rfl,vd [] (aib env (toL ops)) M env hs⟩
     |false=>exact⟨env,M,rfl,hs⟩
    rw[e1]at h;simp only at h
    cases hn:y9 env1 with
    |false=>rw[hn]at h;exact h.elim
    |true=>
    rw[hn]at h;simp only[a0c]at h;have hc2:=hc.2;simp only[am,a0a]at hc2;exact bg6 (R:=false) (R2:=false) (ks:=[]) (as:=as) ⟨hΦ,hG⟩ hB hmix hc2.1 hf hc2.2 (fun _=>rfl) (fun i hi hfl=>bd5 hi hfl) hQ hs1 hn h
   |false=>
   rw[hpm]at h hc;simp only[a0g]at h hc
   cases hfx:Nat.ble 1000 (cut id)with
   |true=>
    rw[hfx]at h hc;simp only[a0c]at h hc;generalize Nat.sub (cut id) 1000=n at h hc;obtain⟨env1,M1,e1,hs1⟩:∃env1 M1,qk [] (aub env (toL ops)) M env=(env1,M1)/\St F p env1 M1 a w:=⟨_,_,rfl,vd [] (aub env (toL ops)) M env hs⟩;rw[e1]at h;simp only at h
    cases hn:y9 env1 with
    |false=>rw[hn]at h;exact h.elim
    |true=>
    rw[hn]at h;simp only[a0c]at h;exact bfv (R:=false) (ks:=[]) (as:=[]) ⟨bn7 hΦ,hG⟩ hB hmix hc.1 hf hc.2 (fun _=>rfl) (fun h=>by cases h) hQ hs1 hn (by simp only[ass,bpp];exact h)
   |false=>
   rw[hfx]at h hc;simp only[a0g]at h hc
   cases hhx:Nat.ble 500 (cut id)with
   |true=>
    rw[hhx]at h hc;simp only[a0c]at h hc;generalize Nat.sub (cut id) 500=n at h hc
    cases hn:y9 env with
    |false=>rw[hn]at h;exact h.elim
    |true=>
    rw[hn]at h;simp only[a0c]at h;exact bfv (R:=false) (ks:=[]) (as:=[]) ⟨hΦ,hG⟩ hB hmix hc.1 hf hc.2 (fun _=>rfl) (fun h=>by cases h) hQ hs hn (by simp only[ass,bpp];exact h)
   |false=>
   rw[hhx]at h hc;simp only[a0g]at h hc
   cases hn:nogd env with
   |false=>rw[hn]at h;exact h.elim
   |true=>
   rw[hn]at h;replace h:=bdk (B:=B) (Φ:=Φ) (fun env hI he=>ai1 (B:=B) (Φ:=Φ) _ _ _ hI he) _ _ _ (aip hn) h;exact bra ⟨hΦ,hG⟩ hB hmix hc.1 hf hc.2 hQ hs h
 |.cond g x y,F,hG,A,K,env,M,hc,hf,h,p,a,w,hs=>by
  simp only[okC,am,a0a]at hc
  cases g with
  |const v=>simp only[ev]at h
  |func v=>simp only[ev]at h
  |global v=>simp only[ev]at h
  |tmp t=>
   have plain:∀(A1 A2:Ann) (F':Fr) (hG':agl P F') (K':Ex->Env->Mem->Prop),F'.nt=F.nt->aea F'.fv x->aea F'.fv y->St F' p env M a w->(gt env t).isB=true->cnd (gt env t).boolV (ev B Φ cut x A1 K' env M) (ev B Φ cut y A2 K' env M)->(Code.cond (.tmp t) x y).wp P (ym F' K') a w:=fun A1 A2 F' hG' K' hnt hfx hfy hs' hb hcn=>wp_cond_split (t:=(gt env t).boolV) (bp8 hs' hb) (fun e=>yx hΦ hB hmix cut x F' hG' A1 K' env M (by rw[hnt];exact hc.1) hfx (hcn.1 e) p a w hs') (fun e=>yx hΦ hB hmix cut y F' hG' A2 K' env M (by rw[hnt];exact hc.2) hfy (hcn.2 e) p a w hs')
   have nj:∀A:Ann,ev B Φ cut (.cond (.tmp t) x y) A K env M=(bif (gt env t).isB then cnd (gt env t).boolV (ev B Φ cut x A.fst K env M) (ev B Φ cut y A.snd K env M)else False)->ev B Φ cut (.cond (.tmp t) x y) A K env M->(Code.cond (.tmp t) x y).wp P (ym F K) a w:=fun A e h=>by
    rw[e]at h
    cases hb:(gt env t).isB with
    |false=>rw[hb]at h;exact h.elim
    |true=>rw[hb]at h;exact plain A.fst A.snd F hG K rfl hf.1 hf.2 hs hb h
   cases A with
   |n=>exact nj _ (by simp only[ev]) h
   |s A1 A2=>exact nj _ (by simp only[ev]) h
   |l ss os ks A=>exact nj _ (by simp only[ev]) h
   |j ss os ks A=>
    simp only[ev]at h
    cases hb:bg [(gt env t).isB,noW ks x,noW ks y]with
    |false=>rw[hb]at h;exact h.elim
    |true=>rw[hb]at h;simp only[a0c,jd]at h;simp only[au,bh,a0k,a0a]at hb;exact ax9 hs (plain A.fst A.snd (mkF F (Imm F p M w) w ks a) hG _ rfl (p7 x hb.2.1 hf.1) (p7 y hb.2.2 hf.2) (hs.fwd ks) hb.1 h)
 |.block id c,F,hG,A,K,env,M,hc,hf,h,p,a,w,hs=>by
  simp only[okC]at hc
  have fin:∀(F':Fr) (K2:Ex->Env->Mem->Prop),c.wp P (ym F' (bcv id K2)) a w->(Code.block id c).wp P (ym F' K2) a w:=fun F' K2 hw=>by
   refine wp_block (a2p (fun e a' w' he=>?_) hw)
   cases e with
   |normal=>exact he
   |exit id'=>
    obtain⟨p',env',M',h1,h2⟩:=he;simp only[bcv,ck]at h2;simp only[Exit.inBlock];split at h2
    ·rename_i e;rw[d0 e];exact⟨p',env',M',h1,h2⟩
    ·rename_i e;rw[ds e];exact⟨p',env',M',h1,h2⟩
   |ret=>exact he
   |goto l=>exact he
   |panic c=>exact he.elim
   |outgrown=>exact he.elim
  have nj:∀A:Ann,ev B Φ cut (.block id c) A K env M=ev B Φ cut c A (bcv id K) env M->ev B Φ cut (.block id c) A K env M->(Code.block id c).wp P (ym F K) a w:=fun A e h=>by rw[e]at h;exact fin F K (yx hΦ hB hmix cut c F hG A _ env M hc hf h p a w hs)
  cases A with
  |n=>exact nj _ (by simp only[ev]) h
  |s A1 A2=>exact nj _ (by simp only[ev]) h
  |l ss os ks A=>exact nj _ (by simp only[ev]) h
  |j ss os ks A=>
   simp only[ev]at h
   cases hb:noW ks c with
   |false=>rw[hb]at h;exact h.elim
   |true=>rw[hb]at h;simp only[a0c,jd]at h;exact ax9 hs (fin _ _ (yx hΦ hB hmix cut c (mkF F (Imm F p M w) w ks a) hG A _ env M hc (p7 c hb hf) h p a w (hs.fwd ks)))
 |.loop c,F,hG,A,K,env,M,hc,hf,h,p,a,w,hs=>by
  simp only[okC]at hc
  cases A with
  |n=>simp only[ev]at h
  |s A1 A2=>simp only[ev]at h
  |j ss os ks A=>simp only[ev]at h
  |l ss os ks A=>
   simp only[ev]at h
   cases hb:noW ks c with
   |false=>rw[hb]at h;exact h.elim
   |true=>
    rw[hb]at h;simp only[a0c]at h
    cases hrd:ajr ss os env M with
    |none=>rw[hrd]at h;exact h.elim
    |some q=>
     rw[hrd]at h;simp only[bc]at h;obtain⟨n,hn⟩:=h;obtain⟨p1,h1,hK⟩:=ask hs hrd;obtain⟨o1,o2⟩:=aoo hs hrd;generalize hbody:(fun (s:aba ss×tg os) (next:aba ss×tg os->Prop)=>aki (okS ss s.1) (aki (okO os s.2) (ev B Φ cut c A (ahn ss os next K) (ap (al5 ss s.1) (ah8 q.2 ks)) (lu os s.2))))=body at hn
     have key:=az6 (P:=P) (c:=c) (Q':=ym F K) (ι:=Nat) (fun n a1 w1=>∃(p2:Ow) (s:aba ss×tg os),St (mkF F (Imm F p1 (lu os q.1.2) w) w ks a) p2 (ap (al5 ss s.1) (ah8 q.2 ks)) (lu os s.2) a1 w1/\ab (okS ss s.1)/\ab (okO os s.2)/\anc body n s) id
      (fun n a1 w1 ⟨p2,s,g1,g2,g3,g4⟩=>by
       cases n with
       |zero=>simp only[anc]at g4
       |succ n=>
        simp only[anc]at g4;have hb1:=congrFun (congrFun hbody s) (anc body n);rw[←hb1]at g4;simp only[bb7]at g4;refine a2p (fun e a' w' he=>?_) (yx hΦ hB hmix cut c (mkF F (Imm F p1 (lu os q.1.2) w) w ks a) hG A _ _ _ hc (p7 c hb hf) (g4 g2 g3) p2 a1 w1 g1)
        cases e with
        |normal=>
         obtain⟨p3,env3,M3,k1,k2⟩:=he;simp only[ahn,bij]at k2
         cases hr3:ajr ss os env3 M3 with
         |none=>rw[hr3]at k2;exact k2.elim
         |some s'=>rw[hr3]at k2;obtain⟨p4,k3,_⟩:=ask k1 hr3;obtain⟨k4,k5⟩:=aoo k1 hr3;exact⟨n,a4t n,p4,s'.1,St.add hK k3,k4,k5,k2⟩
        |exit id=>obtain⟨p3,env3,M3,k1,k2⟩:=he;exact⟨p3,env3,M3,h1.back k1,k2⟩
        |ret=>obtain⟨p3,env3,M3,k1,k2⟩:=he;exact⟨p3,env3,M3,h1.back k1,k2⟩
        |goto l=>obtain⟨p3,env3,M3,k1,k2⟩:=he;exact⟨p3,env3,M3,h1.back k1,k2⟩
        |panic ch=>exact he.elim
        |outgrown=>exact he.elim)
     exact key n a w ⟨p1,q.1,St.add hK (h1.fwd ks),o1,o2,hn⟩
 |.scope c,F,hG,A,K,env,M,hc,hf,h,p,a,w,hs=>by
  simp only[okC]at hc;simp only[ev]at h;refine wp_scope_straight (a2p (fun e a' w' he=>?_) (yx hΦ hB hmix cut c F hG A _ env M hc hf h p a w hs))
  cases e with
  |goto l=>obtain⟨_,_,_,_,h2⟩:=he;exact h2.elim
  |normal=>exact he
  |exit id=>exact he
  |ret=>exact he
  |panic ch=>exact he
  |outgrown=>exact he
 |.goto l,F,hG,A,K,env,M,_,_,h,p,a,w,hs=>by simp only[ev]at h;exact wp_goto ⟨p,env,M,hs,h⟩
 |.label _,F,hG,A,K,env,M,_,_,h,p,a,w,hs=>by simp only[ev]at h;exact wp_label ⟨p,env,M,hs,h⟩
 |.rangeFunc _ _ _ _,F,hG,A,K,env,M,_,_,h,p,a,w,hs=>by simp only[ev]at h
 |.refuse _,F,hG,A,K,env,M,_,_,h,p,a,w,hs=>by simp only[ev]at h
end
end Go.Bm
/- The du machine:a contract out of a walk. -/
namespace Go.Bm
open Go.RowKit
theorem ba9{Im Im':Nat->Prop}{w:World}:(rs:List (Bool×O))->ajs rs=true->(x:je rs)->(S:Nat->Prop)->(us:List Value)->ji Im w rs x S us->ji Im' w rs x S us
 |[],_,x,S,us,r=>by simpa only [ji]using r
 |q::rs,h,x,S,us,r=>by simp only[ajs,am,a0a]at h;simp only[ji]at r⊢;obtain⟨u,us',vs,S1,S2,e1,e2,e3,e4,e5,e6,e7,e8⟩:=r;exact⟨u,us',vs,S1,S2,e1,e2,e3,e4,e5,e6,ub _ h.1 _ _ _ e7,ba9 rs h.2 _ _ _ e8⟩
section
variable {F:Fr} {p p' p'':Ow} {env env':Env} {M M' M'':Mem} {a a':Act} {w w' w'':World} {P:Program} {B:Tab} {Φ:FuncId->Option Ct}
theorem bq3{t:TypeId}{u r:Value}(h:(Instr.loadAt t u).run P w=.ok r w):(do loadVar t (←asAddr u):Sem Value).run P w=.ok r w:=by
 cases u <;> simp[Instr.loadAt,Instr.sureAddr]at h
 case pointer o=>
  cases o with
  |none=>simp at h
  |some ad=>simpa[asAddr]using h
def bck(tmps:Array Value):ResultVar->Sem Value
 |.tmp t=>pure (tmps.getD t undef)
 |.cell t ty'=>do loadVar ty' (←asAddr (tmps.getD t undef))
theorem adn(fn:Func)(tmps:Array Value):results fn tmps=(do let vs ←fn.results.mapM (bck tmps);pure (if h:vs.size=1 then vs[0]else .tuple vs):Sem Value):=by unfold results;congr
theorem awx(hB:TabOk P B)(hp:Hp F p M w)(hs:∀t,ah p.β M (Imm F p M w) w (gt env t) (a.tmps.getD t undef))(rv:ResultVar)(v:V)(hv:aw6 B env M rv=some v) :
  ∃r,(bck a.tmps rv).run P w=.ok r w/\ah p.β M (Imm F p M w) w v r:=by
 cases rv with
 |tmp t=>simp only[aw6,a0d]at hv;subst hv;exact⟨_,by simp[bck],hs t⟩
 |cell t ty'=>
  simp only[aw6]at hv;split at hv
  ·rename_i v' he;cases hv;obtain⟨r,h1,h2⟩:=ap2 (P:=P) hB hp _ _ (hs t) (by rw[he];trivial);rw[he]at h2;exact⟨r,bq3 h1,h2⟩
  ·cases hv
theorem bgm{v:V}{u:Value}{g:Bool}(hp:Hp F p M w)(h:ah p.β M (Imm F p M w) w v u)(hc:kw (mo g v)=true):∃vs:List Value,(g=true->u=.agg vs.toArray)/\(g=false->vs=[u])/\aa p.β M (Imm F p M w) w (mo g v) vs:=by
 cases v with
 |ag y=>
  cases g with
  |false=>simp[mo,kw]at hc
  |true=>simp only[ah]at h;obtain⟨vs,h1,h2⟩:=h;exact⟨vs,fun _=>h1,(fun h=>nomatch h),by simpa only [mo,a0c]using h2⟩
 |any=>cases g <;> simp[mo,kw]at hc
 |tup _=>cases g <;> simp[mo,kw]at hc
 |gd _ _ _ _=>cases g <;> simp[mo,kw]at hc
 |ifc t x=>cases g with
  |true=>simp[mo,kw]at hc
  |false=>exact⟨[u],(fun h=>nomatch h),fun _=>rfl,by simpa only [mo,a0g,ah]using h⟩
 |p x y=>cases g with
  |true=>simp[mo,kw]at hc
  |false=>exact⟨[u],(fun h=>nomatch h),fun _=>rfl,by simpa only [mo,a0g,ah]using h⟩
 |u=>cases g with
  |true=>simp[mo,kw]at hc
  |false=>exact⟨[u],(fun h=>nomatch h),fun _=>rfl,by simpa only [mo,a0g,ah]using h⟩
 |ref k π=>cases g with
  |true=>simp[mo,kw]at hc
  |false=>exact⟨[u],(fun h=>nomatch h),fun _=>rfl,by simpa only [mo,a0g,ah]using h⟩
 |ad k π=>cases g with
  |true=>simp[mo,kw]at hc
  |false=>exact⟨[u],(fun h=>nomatch h),fun _=>rfl,by simpa only [mo,a0g,ah]using h⟩
 |d t x=>cases g with
  |true=>simp[mo,kw]at hc
  |false=>exact⟨[u],(fun h=>nomatch h),fun _=>rfl,by simpa only [mo,a0g,ah]using h⟩
 |nl=>cases g with
  |true=>simp[mo,kw]at hc
  |false=>exact⟨[u],(fun h=>nomatch h),fun _=>rfl,by simpa only [mo,a0g,ah]using h⟩
 |np=>cases g with
  |true=>simp[mo,kw]at hc
  |false=>exact⟨[u],(fun h=>nomatch h),fun _=>rfl,by simpa only [mo,a0g,ah]using h⟩
 |fn f x=>cases g with
  |true=>simp[mo,kw]at hc
  |false=>exact⟨[u],(fun h=>nomatch h),fun _=>rfl,by simpa only [mo,a0g,ah]using h⟩
 |bx x=>cases g with
  |true=>simp[mo,kw]at hc
  |false=>exact⟨[u],(fun h=>nomatch h),fun _=>rfl,by simpa only [mo,a0g,ah]using h⟩
theorem be2(hp:Hp F p M w)(o:O)(v:V)(vs:List Value)(x:o.strip.den)(e:List Ev)(r:aa p.β M (Imm F p M w) w v vs)(h:bjh M o v=some (x,e,M')) :
  ∃p',∃S:Nat->Prop,Tr F p M w e p' M' w/\(∀b,p'.L b<->p.L b\/S b)/\(∀b,S b->¬p.L b)/\Rel (Imm F p' M' w) w o x S vs:=by
 have key:(match conv gid o.strip v M with
  |some (q,e,M')=>(match wkO q o with|some x=>some (x,e,M')|none=>none)
  |none=>none)=some (x,e,M')->∃p',∃S:Nat->Prop,Tr F p M w e p' M' w/\(∀b,p'.L b<->p.L b\/S b)/\(∀b,S b->¬p.L b)/\Rel (Imm F p' M' w) w o x S vs:=fun h=>by
  split at h
  ·rename_i q e1 M1 hc;split at h
   ·rename_i y hy;cases h;obtain⟨_,p1,S,cv⟩:=ad4 gid o.strip v M p vs q e M' hp r hc;obtain⟨w1,w2⟩:=ab7 hy;obtain⟨S',s1,s2⟩:=zp q.o o w1 q.x x S vs w2 cv.rel;have hd:=Tr.drop cv.tr.hp (fun b=>p.L b\/S' b) (fun b hb=>(cv.L b).2 (hb.imp id (s1 b)));refine⟨⟨p1.β,p1.σ,fun b=>p.L b\/S' b⟩,S',by have:=cv.tr.trans hd;rwa [aih]at this,fun b=>a2l,fun b hb=>cv.sp b (s1 b hb),s2 _ (fun b hb=>(hd.keep b hb).1) (fun b hb hn=>?_)⟩;have hl:=cv.tr.hp.lim b ((cv.L b).2 (.inr hb));exact⟨hl.1,.inr (.inr hl.2.1),fun h=>h.elim (cv.sp b hb) hn,hl.2.2⟩
   ·cases h
  ·cases h
 cases o with
 |fz t=>
  simp only[bjh]at h;have hf:=wa v M hp;generalize ca M v=z at h hf;obtain⟨e1,M1⟩:=z;simp only at h hf;split at h
  ·rename_i y hy;cases h;exact⟨p,fun _=>False,hf,fun b=>by simp,fun b hb=>hb.elim,by simp only[Rel];exact aai _ t vs x (hf.c _ _ r) hy⟩
  ·cases h
 |p a b=>exact key h
 |sl a=>exact key h
 |pt a=>exact key h
 |mp _ _=>exact key h
 |op _=>exact key h
theorem bgq(hB:TabOk P B):(rs:List ResultVar)->(qs:List (Bool×O))->(p:Ow)->(env:Env)->(M:Mem)->(y:je qs)->Hp F p M w->(∀t,ah p.β M (Imm F p M w) w (gt env t) (a.tmps.getD t undef))->apk B env M rs qs=some y->
  ∃us p' M',∃S:Nat->Prop,(rs.mapM (bck a.tmps)).run P w=.ok us w/\Hp F p' M' w/\gn (Imm F p M w) (Imm F p' M' w) w w/\(∀b,p.L b->p'.L b)/\(∀b,S b->p'.L b)/\(∀b,S b->¬p.L b)/\ji (Imm F p' M' w) w qs y S us
 |[],[],p,env,M,y,hp,hs,h=>by exact⟨[],p,M,fun _=>False,rfl,hp,gn.refl _ _,fun b hb=>hb,fun b hb=>hb.elim,fun b hb=>hb.elim,by simp only[ji]⟩
 |[],_::_,p,env,M,y,hp,hs,h=>by simp[apk]at h
 |_::_,[],p,env,M,y,hp,hs,h=>by simp[apk]at h
 |r::rs,q::qs,p,env,M,y,hp,hs,h=>by
  simp only[apk]at h;split at h
  ·rename_i v hv
   cases hc:kw (mo q.1 v)with
   |false=>rw[hc]at h;cases h
   |true=>
    rw[hc]at h;simp only[a0c]at h;split at h
    ·rename_i x e M1 ho;split at h
     ·rename_i z hz;cases h;obtain⟨u,u1,u2⟩:=awx (P:=P) (a:=a) hB hp hs r v hv;obtain⟨vs,g1,g2,g3⟩:=bgm hp u2 hc;obtain⟨p1,S,t1,t2,t3,t4⟩:=be2 hp q.2 (mo q.1 v) vs x e g3 ho;obtain⟨us,p2,M2,S2,k1,k2,k3,k4,k5,k6,k7⟩:=bgq hB rs qs p1 (rp env e) M1 z t1.hp (fun t=>by rw[u5];exact t1.s _ _ (hs t)) hz;refine⟨u::us,p2,M2,fun b=>S b\/S2 b,?_,k2,t1.keep.trans k3,fun b hb=>k4 b ((t2 b).2 (.inl hb)),fun b hb=>hb.elim (fun h=>k4 b ((t2 b).2 (.inr h))) (k5 b),fun b hb=>hb.elim (t3 b) (fun h hL=>k6 b h ((t2 b).2 (.inl hL))),?_⟩
      ·simp only[List.mapM_cons,a1j,u1,a1r,k1,a2m]
      ·simp only[ji];exact⟨u,us,vs,S,S2,rfl,g1,g2,fun b hb=>.inl hb,fun b hb=>.inr hb,fun b hb hb'=>k6 b hb' ((t2 b).2 (.inr hb)),Rel.keep k3 _ _ _ _ (fun _ _=>rfl) t4,k7⟩
     ·cases h
    ·cases h
  ·cases h
theorem ahv:∀(l:List V) (i t:Nat),gt (aa4 i l) t=if i<=t then (l[t-i]?).getD .any else .any
 |[],i,t=>by simp[aa4,gt]
 |x::r,i,t=>by
  simp only[aa4];rw[km];by_cases h:i=t
  ·subst h;simp
  ·rw[ds h,ahv r (Nat.succ i) t];by_cases h1:Nat.succ i<=t
   ·rw[d0 h1,d0 (by omega),show t-i=(t-Nat.succ i)+1 by omega];simp
   ·rw[ds h1,ds (by omega)]
theorem al3{A Im:Nat->Prop}{β:Nat->Value}{M:Mem}(hA:∀b,A b->Im b):(gs:List Bool)->(ts:List T)->(x:dy ts)->(us:List Value)->oi A w gs ts x us->(qs:List TypeId)->(m:Nat)->gs=ap (qs.map (fun q=>(B.τ q).agg)) (ac0 false m)->us.length=gs.length/\(xj B qs ts x).length=gs.length/\ab (okL ts x)/\
  ∀(i:Nat) (v:V) (u:Value),(xj B qs ts x)[i]? = some v->us[i]? = some u->ah β M Im w v u
 |[],[],x,us,h,qs,_,_=>by simp only[oi]at h;subst h;exact⟨rfl,by cases qs <;> rfl,trivial,fun i v u hv=>by cases qs <;> simp[xj]at hv⟩
 |[],_::_,x,us,h,_,_,_=>by simp[oi]at h
 |_::_,[],x,us,h,_,_,_=>by simp[oi]at h
 |g::gs,t::ts,x,us,h,[],m,e=>by
  simp only[oi]at h;obtain⟨u,us',vs,rfl,h1,h2,h3,h4⟩:=h
  cases m with
  |zero=>simp[ap,ac0]at e
  |succ m=>
   simp only[a2j,ap,ac0,a0i]at e;obtain⟨i1,i2,i3,i4⟩:=al3 (β:=β) (M:=M) hA gs ts x.2 us' h4 [] m (by simpa only [a2j,ap]using e.2);refine⟨by simp[i1],by simp[xj,i2],by simp only[okL,sf];exact⟨lq _ _ (ai.ok _ _ _ h3),i3⟩,fun i v u' hv hu=>?_⟩
   cases i with
   |zero=>simp only[xj,a1s,a0d]at hv hu;subst hv;subst hu;have r:aa β M Im w (kg t x.1) vs:=fw t x.1 vs (ai.keep (fun b hb=>⟨hA b hb,rfl⟩) _ _ _ h3);have:=h2 e.1;subst this;exact a7 r
   |succ i=>exact i4 i v u' (by simpa[xj]using hv) (by simpa using hu)
 |g::gs,t::ts,x,us,h,q::qs,m,e=>by
  simp only[oi]at h;obtain⟨u,us',vs,rfl,h1,h2,h3,h4⟩:=h;simp only[a05,ap,a0i]at e;obtain⟨i1,i2,i3,i4⟩:=al3 (β:=β) (M:=M) hA gs ts x.2 us' h4 qs m e.2;refine⟨by simp[i1],by simp[xj,i2],by simp only[okL,sf];exact⟨lq _ _ (ai.ok _ _ _ h3),i3⟩,fun i v u' hv hu=>?_⟩
  cases i with
  |zero=>
   simp only[xj,a1s,a0d]at hv hu;subst hv;subst hu;have r:aa β M Im w (kg t x.1) vs:=fw t x.1 vs (ai.keep (fun b hb=>⟨hA b hb,rfl⟩) _ _ _ h3);rw[←e.1]
   cases g with
   |true=>simp only[xd,a0c,ah];exact⟨vs,h1 rfl,r⟩
   |false=>have:=h2 rfl;subst this;simp only[xd,a0g];exact a7 r
  |succ i=>exact i4 i v u' (by simpa[xj]using hv) (by simpa using hu)
theorem btr (hB : TabOk P B) {f : FuncId} {fn : Func} {c : Code} (hf : P.funcs[f]? = some fn) (hb : fn.body = some c) (hn : (fn.name == "runtime.NumGoroutine") = false) (ct : Ct) (Q : dy ct.args -> je ct.rt -> Prop)
  (hga:ct.ga=agL B fn) (hfl:orb ct.sh (ajs ct.rt)=true) (hlen:ct.ga.length<=fn.ntmps)
  (h:∀x,ab (okL ct.args x)->ab (ct.pre x)->∀(F:Fr) (p:Ow) (a:Act) (w:World),agl P F->F.nt=fn.ntmps->F.fv=(fun _=>none)->St F p (aa4 0 (xj B (toL fn.params) ct.args x)) [] a w->c.wp P (ym F (bop B (toL fn.results) ct.rt (Q x))) a w):∀(A:Nat->Prop) (w:World) (us:List Value) (x:dy ct.args),ErrG P A w->(∀b,A b->b<w.heap.size)->oi A w ct.ga ct.args x us->ab (ct.pre x)->
  Calls P f us.toArray w fun e w'=>∃r rs S,Q x r/\e=.returned (nx rs)/\Ext w w'/\(∀b,S b->w.heap.size<=b/\b<w'.heap.size)/\
   ji (fun b=>b<w'.heap.size/\(ct.sh=true/\A b\/w.heap.size<=b)/\¬S b) w' ct.rt r S rs:=by
 intro Ab w us x hE hA hrel hpre;let F:Fr:=⟨w,w,Ab,fun _=>False,fun _=>False,fn.ntmps,fun _=>none⟩
 let p0:Ow:=⟨fun _=>undef,fun _ _=>False,fun _=>False⟩
 have himm:∀b,Ab b->Imm F p0 [] w b:=fun b hb=>⟨hA b hb,.inl hb,fun h=>h,fun k hk=>by simp[bt,go]at hk⟩;obtain⟨l1,l2,l3,l4⟩:=al3 (B:=B) (β:=p0.β) (M:=[]) himm ct.ga ct.args x us hrel (toL fn.params) fn.nfree hga
 have hst:St F p0 (aa4 0 (xj B (toL fn.params) ct.args x)) [] { tmps:=us.toArray++Array.replicate (fn.ntmps-us.toArray.size) undef,defers:=[] } w:=by
  refine⟨rfl,by simp[F];omega,fun t v ht=>by simp[F]at ht,fun b hb=>hb.elim,fun b hb=>hb,fun t=>?_,⟨fun k o hk=>by simp[go]at hk,fun k k' b _ hk=>by simp[bt,go]at hk,fun k b hk=>by simp[bt,go]at hk,fun b hb=>hb.elim,rfl,⟨rfl,a0f _⟩,rfl,a0f _,fun b _ _=>rfl⟩⟩;rw[ahv];simp only[a09,a01,a3r]
  cases hx:(xj B (toL fn.params) ct.args x)[t]? with
  |none=>simp only[a3n,ah]
  |some v=>
   have ht:=(a1k.1 hx).1;have hu:us[t]? = some us[t]:=a0o (by omega);simp only[a0z];have:(us.toArray++Array.replicate (fn.ntmps-us.toArray.size) undef).getD t undef=us[t]:=by rw[a3d,a4a (by have:=(a1k.1 hu).1;simpa using this)];simp[hu]
   rw[this];exact l4 t v _ hx hu
 refine a4f hf hb (a2p (fun e a' w' he=>?_) (h x l3 hpre F p0 _ w (hE.of fun b hb _=>⟨⟨hb,fun h=>h⟩,rfl⟩) rfl rfl hst))
 have key:∀p env M,St F p env M a' w'->bir (apk B env M (toL fn.results) ct.rt) (Q x)->(e=.normal\/e=.ret)->bodyPost P fn (fun e w'=>∃r rs S,Q x r/\e=.returned (nx rs)/\Ext w w'/\(∀b,S b->w.heap.size<=b/\b<w'.heap.size)/\
   ji (fun b=>b<w'.heap.size/\(ct.sh=true/\Ab b\/w.heap.size<=b)/\¬S b) w' ct.rt r S rs) e a' w':=by
  intro p env M hs hr hee;unfold bir at hr;split at hr
  ·rename_i r hres;obtain⟨rs,p',M',S,k1,k2,k3,k4,k5,k6,k7⟩:=bgq (P:=P) (a:=a') hB (toL fn.results) ct.rt p env M _ hs.hp hs.slots hres;rw[dh]at k1
   have hrun:(results fn a'.tmps).run P w'=.ok (nx rs) w':=by
    rw[adn,a4g];simp only[a1j,Sem.run_map,k1,a1r,a2m]
    match rs with
    |[]=>rfl
    |[u]=>rfl
    |u::u'::r=>simp[nx]
   have hpost:∃r' rs' S,Q x r'/\Ending.returned (nx rs)=.returned (nx rs')/\Ext w w'/\(∀b,S b->w.heap.size<=b/\b<w'.heap.size)/\ji (fun b=>b<w'.heap.size/\(ct.sh=true/\Ab b\/w.heap.size<=b)/\¬S b) w' ct.rt r' S rs':=by
    refine⟨r,rs,S,hr,rfl,⟨k2.os,k2.tape,k2.output,k2.size,fun b hb=>k2.old b hb (fun h=>h)⟩,fun b hb=>⟨(k2.lim b (k5 b hb)).2.1,(k2.lim b (k5 b hb)).1⟩,?_⟩;rw[mi,a1f]at hfl;rcases hfl with hsh|hfl
    ·refine ji.keep (fun b hb=>⟨hb.1,?_,fun hS=>hb.2.2.1 (k5 b hS)⟩) _ _ _ _ k7;rcases hb.2.1 with h1|h1|h1
     ·exact .inl ⟨hsh,h1⟩
     ·exact h1.elim
     ·exact .inr h1
    ·exact ba9 _ hfl _ _ _ k7
   rcases hee with rfl|rfl
   ·exact⟨hs.defers,_,hrun,hpost⟩
   ·exact⟨hs.defers,_,hrun,hpost⟩
  ·exact hr.elim
 cases e with
 |normal=>obtain⟨p,env,M,h1,h2⟩:=he;exact key p env M h1 h2 (.inl rfl)
 |ret=>obtain⟨p,env,M,h1,h2⟩:=he;exact key p env M h1 h2 (.inr rfl)
 |exit id=>obtain⟨p,env,M,h1,h2⟩:=he;exact h2.elim
 |goto l=>obtain⟨p,env,M,h1,h2⟩:=he;exact h2.elim
 |panic ch=>exact he.elim
 |outgrown=>exact he.elim
theorem btj (hB : TabOk P B) {f : FuncId} {fn : Func} {c : Code} (hf : P.funcs[f]? = some fn) (hb : fn.body = some c) (hn : (fn.name == "runtime.NumGoroutine") = false) (ct : Ct) (hmu : ct.mu = none)
  (hga:ct.ga=agL B fn) (hfl:orb ct.sh (ajs ct.rt)=true) (hlen:ct.ga.length<=fn.ntmps)
  (h:∀x,ab (okL ct.args x)->ab (ct.pre x)->∀(F:Fr) (p:Ow) (a:Act) (w:World),agl P F->F.nt=fn.ntmps->F.fv=(fun _=>none)->St F p (aa4 0 (xj B (toL fn.params) ct.args x)) [] a w->c.wp P (ym F (bop B (toL fn.results) ct.rt (fun r=>r=ct.res x))) a w):bn P f ct:=by
 refine⟨tq hf hb hn,?_⟩;simp only[hmu,bdp];intro Ab w us x hE hA hrel hpre cs;obtain⟨e,w',fr,⟨r,rs,S,hr,h1⟩,h2⟩:=btr hB hf hb hn ct (fun x r=>r=ct.res x) hga hfl hlen h Ab w us x hE hA hrel hpre cs;subst hr;exact⟨e,w',fr,⟨rs,S,h1⟩,h2⟩
theorem btn (hΦ : z7 P Φ) (hB : TabOk P B) (hmix : P.follows .mixedOrders = true) {f : FuncId} {fn : Func} {c : Code} (hf : P.funcs[f]? = some fn) (hb : fn.body = some c) (hn : (fn.name == "runtime.NumGoroutine") = false) (ct : Ct) (hmu : ct.mu = none) (A : Ann) (cut : Nat -> Nat)
  (hga:ct.ga=agL B fn) (hfl:orb ct.sh (ajs ct.rt)=true) (hck:okC fn.ntmps cut c=true) (hlen:ct.ga.length<=fn.ntmps)
  (h:∀x,ab (okL ct.args x)->ab (ct.pre x)->evF B Φ cut fn c A ct x (fun r=>r=ct.res x)):bn P f ct:=
 btj hB hf hb hn ct hmu hga hfl hlen fun x h1 h2 F p a w hG e1 e2 hst=>yx hΦ hB hmix cut c F hG A _ _ _ (by rw[e1];exact hck) (by rw[e2];exact qb c) (h x h1 h2) p a w hst
end
end Go.Bm
/- The du machine:what comes in,as data. -/
namespace Go.Bm
open Go.RowKit
def ny(P:Program)(r:TypeId->T->Bool):List Field->Nat->T->Bool
 |[],_,.u=>true
 |[f],off,d=>bg [Nat.beq f.offset off,Nat.beq (P.cellsOf f.type) d.size,r f.type d]
 |f::g::l,off,.p a b=>nob (bg [Nat.beq f.offset off,Nat.beq (P.cellsOf f.type) a.size,r f.type a]) (ny P r (g::l) (off+a.size) b)
 |_,_,_=>false
def du(P:Program):Nat->TypeId->T->Bool
 |0,_,_=>false
 |n+1,t,d=>match P.underlying t,d with
  |some (.int k),.int k'=>aad k k'
  |some .bool,.bool=>true
  |some .string,.str=>true
  |some (.slice e),.sl d=>bg [du P n e d,Nat.beq (P.cellsOf e) d.size,neg (Nat.beq (P.bytesOf e) 0),neg (isZ d.size)]
  |some (.struct fs),d=>nob (Nat.beq (P.cellsOf t) d.size) (ny P (du P n) fs.toList 0 d)
  |_,_=>false
section
variable {H:Type} {enc:TypeId×Value->H} {P:Program} {w:World} {base:Nat} {spare:Nat->Bool} {held:Bool}
theorem bkd{Im:Nat->Prop}{r:TypeId->T->Bool}{cs:List Value}:(l:List Field)->(off:Nat)->(d:T)->ny P r l off d=true->(cs.drop off).length=d.size->
  (∀f∈l,∀d',r f.type d'=true->∃y,ai Im w d' y ((cs.drop f.offset).take (P.cellsOf f.type)))->∃y,ai Im w d y (cs.drop off)
 |[],off,.u,_,hl,_=>⟨(),by simp only[ai];exact a11 hl⟩
 |[f],off,d,h,hl,hf=>by
  have h':bg [Nat.beq f.offset off,Nat.beq (P.cellsOf f.type) d.size,r f.type d]=true:=by cases d <;> simpa only [ny]using h
  simp only[au,bh,a0k,a0a]at h';obtain⟨y,hy⟩:=hf f (by simp) d h'.2.2;have e1:=a0v h'.1;have e2:=a0v h'.2.1;rw[e1,e2,a29 (by omega)]at hy;exact⟨y,hy⟩
 |f::g::l,off,.p a b,h,hl,hf=>by simp only[ny,am,a0a,au,bh,a0k]at h;obtain⟨⟨h1,h2,h3⟩,h4⟩:=h;have e1:=a0v h1;have e2:=a0v h2;obtain⟨y,hy⟩:=hf f (by simp) a h3;simp only[T.size,aqm]at hl;obtain⟨z,hz⟩:=bkd (g::l) (off+a.size) b h4 (by rw[a1n]at hl⊢;omega) (fun f' hf'=>hf f' (by simp[a0s]at hf'⊢;exact .inr hf'));rw[e1,e2]at hy;refine⟨(y,z),?_⟩;simp only[ai];refine⟨_,_,?_,hy,hz⟩;rw[←a3l,a10]
 |[],_,.int _,h,_,_=>by simp[ny]at h
 |[],_,.bool,h,_,_=>by simp[ny]at h
 |[],_,.str,h,_,_=>by simp[ny]at h
 |[],_,.p _ _,h,_,_=>by simp[ny]at h
 |[],_,.sl _,h,_,_=>by simp[ny]at h
 |[],_,.pt _,h,_,_=>by simp[ny]at h
 |[],_,.fn _ _,h,_,_=>by simp[ny]at h
 |[],_,.any,h,_,_=>by simp[ny]at h
 |_::_::_,_,.int _,h,_,_=>by simp[ny]at h
 |_::_::_,_,.bool,h,_,_=>by simp[ny]at h
 |_::_::_,_,.str,h,_,_=>by simp[ny]at h
 |_::_::_,_,.u,h,_,_=>by simp[ny]at h
 |_::_::_,_,.sl _,h,_,_=>by simp[ny]at h
 |_::_::_,_,.pt _,h,_,_=>by simp[ny]at h
 |_::_::_,_,.fn _ _,h,_,_=>by simp[ny]at h
 |_::_::_,_,.any,h,_,_=>by simp[ny]at h
theorem ar5{e:TypeId}:∀(l:List (DataW H)) (q:Nat->Bool),(DataW.weightsAll P e l).all q=true->∀d∈l,(d.weights P e).all q=true
 |[],q,_,d,hd=>by cases hd
 |x::l,q,h,d,hd=>by
  simp only[DataW.weightsAll,a4h,a0a]at h;rcases a0s.1 hd with rfl|hd
  ·exact h.1
  ·exact ar5 l q h.2 d hd
theorem ao9:∀(ts:List TypeId) (l:List (DataW H)) (q:Nat->Bool),(DataW.weightsEach P ts l).all q=true->∀(i:Nat) t d,ts[i]? = some t->l[i]? = some d->(d.weights P t).all q=true
 |[],_,q,_,i,t,d,ht,_=>by simp at ht
 |_::_,[],q,_,i,t,d,_,hd=>by simp at hd
 |t0::ts,x::l,q,h,i,t,d,ht,hd=>by
  simp only[DataW.weightsEach,a4h,a0a]at h
  cases i with
  |zero=>simp at ht hd;subst ht;subst hd;exact h.1
  |succ i=>exact ao9 ts l q h.2 i t d (by simpa using ht) (by simpa using hd)
theorem brp:∀(n:Nat) (t:TypeId) (d:T),du P n t d=true->∀(fuel:Nat) (cs:List Value) (x:DataW H×List MemPlace),DataW.trod enc P w base spare held fuel t cs=some x->(x.1.weights P t).all (·<=reachBytes)=true->
  ∃y:d.den,ai (fun b=>b<w.heap.size) w d y cs:=by
 intro n
 induction n with
 |zero=>intro t d h;simp[du]at h
 |succ n ih=>
  intro t d h fuel cs x hx hw;unfold du at h;split at h
  ·rename_i k k' hu;have:=we h;subst this;obtain⟨m,rfl,rfl,hwf⟩:=DataW.trod_int hu hx;exact⟨m,by simp only[ai,a0e];simpa[Lit.wf,inK]using hwf⟩
  ·rename_i hu;obtain⟨b,rfl,rfl⟩:=DataW.trod_bool hu hx;exact⟨b,by simp only[ai]⟩
  ·rename_i hu;obtain⟨s,rfl,rfl,hs⟩:=DataW.trod_string hu hx;have hsz:s.size<=reachBytes:=by simpa[DataW.weights]using hw
   exact⟨s,by simp only[ai,a0e];exact a08 hsz (by decide)⟩
  ·rename_i e d' hu;simp only[au,bh,a0k,a0a]at h;obtain⟨h1,h2,h3,h4⟩:=h;have e2:=a0v h2;rcases DataW.trod_slice hu hx with⟨rfl,rfl⟩|⟨a,len,cap,elems,rest,m,_,rfl,rfl,hb,hl,hm,hlen,hel,_,_⟩
   ·exact⟨[],by simp only[ai];exact⟨none,0,rfl,⟨a09 _,a0f _⟩,fun _=>⟨rfl,rfl⟩,fun a ha=>by cases ha⟩⟩
   ·have hpos:0<d'.size:=by
     cases hz:d'.size with
     |zero=>rw[hz]at h4;simp[isZ]at h4
     |succ _=>omega
    have hbpos:0<P.bytesOf e:=by
     cases hz:P.bytesOf e with
     |zero=>rw[hz]at h3;simp at h3
     |succ _=>omega
    simp only[DataW.weights,hu,a3w,a4h,a0a,a06,a0x]at hw;obtain⟨w1,w2,w3⟩:=hw;have hnb:len<=nb:=by have h5:elems.length+rest.length<=(elems.length+rest.length)*P.bytesOf e:=a4r _ hbpos;simp only[reachBytes]at w1;unfold nb;omega
    have hall:∀i,i<len->∃y:d'.den,∃csi,w.cells? base (a.add (i*d'.size)) d'.size=some csi/\ai (fun b=>b<w.heap.size) w d' y csi:=fun i hi=>by have hq:=hel i hi;rw[e2]at hq;have hei:elems[i]? = some elems[i]:=a0o (by omega);rw[hei]at hq;obtain⟨csi,q1,q2⟩:=Option.bind_eq_some_iff.1 hq;obtain⟨y,hy⟩:=ih e d' h1 m csi _ q2 (ar5 _ _ w2 _ (List.mem_map_of_mem (a3c (by omega))));exact⟨y,csi,q1,hy⟩
    classical
    let f:Nat->d'.den:=fun i=>if hi:i<len then (hall i hi).choose else d'.dflt
    refine⟨(List.range len).map f,?_⟩;have hlen':((List.range len).map f).length=len:=by simp
    simp only[ai];refine⟨some a,cap,by rw[hlen'],⟨by rw[hlen'];exact hnb,by rw[hlen'];exact hl⟩,(fun h=>nomatch h),fun a' ha' hp=>?_⟩;cases ha';rw[hlen']at hp;obtain⟨y0,cs0,c1,c2⟩:=hall 0 hp;obtain⟨g1,g2,g3⟩:=World.cells?_some c1;have hc0:=g3 0 hpos;have hl0:0<cs0.length:=by omega
    rw[a0o hl0]at hc0;have hadd0:(a.add (0*d'.size)).add 0=a:=by rw[Nat.zero_mul];unfold Addr.add;simp
    rw[hadd0]at hc0
    have hspot:a.spot=none:=by
     unfold World.cell? at hc0;split at hc0
     ·split at hc0
      ·cases hc0
      ·rename_i hs;simpa using hs
     ·cases hc0
    have hblk:a.block<w.heap.size:=by
     unfold World.cell? at hc0;split at hc0
     ·rename_i hb;exact (a03.1 hb).1
     ·cases hc0
    refine⟨hspot,hblk,fun i y hy=>?_⟩;rw[a1b]at hy;by_cases hi:i<len
    ·rw[a2g hi]at hy;simp only[a00,a0d]at hy;have hf:f i=(hall i hi).choose:=by simp only[f,dif_pos hi]
     rw[hf]at hy;obtain⟨csi,q1,q2⟩:=(hall i hi).choose_spec;rw[hy]at q2;obtain⟨r1,r2,r3⟩:=World.cells?_some q1;refine⟨csi,fun j u hu'=>?_,q2⟩;have hj:j<d'.size:=by have:=(a1k.1 hu').1;omega
     have:=r3 j hj;obtain⟨b,o,sp⟩:=a;simp only at hspot;subst hspot;rw[a2u,a2u]at this;rw[this];exact hu'
    ·rw[a1p (by simpa using hi)]at hy;cases hy
  ·rename_i _ fs hu;simp only[am,a0a]at h;have e1:=a0v h.1;obtain⟨xs,m,_,rfl,hl,hxl,hf⟩:=DataW.trod_struct hu hx;simp only[DataW.weights,hu]at hw
   have:=bkd (w:=w) (Im:=fun b=>b<w.heap.size) (cs:=cs) fs.toList 0 _ h.2 (by simp only[List.drop_zero];omega) (fun f hfm d' hd'=>by
    obtain⟨i,hi,rfl⟩:=a2f hfm;have hfi:fs[i]? = some fs[i]:=by simp at hi;simp[hi]
    have hq:=hf i _ hfi;have hi':i<xs.length:=by simp at hi;omega
    rw[a0o hi']at hq;have hww:=ao9 _ _ _ hw i fs[i].type xs[i].1 (by simp at hi;simp[hi]) (by simp[hi']);simpa using ih _ d' (by simpa using hd') m _ _ hq hww)
   simpa only [List.drop_zero]using this
  ·cases h
end
end Go.Bm
/- The du machine:what a statement asks of a law. -/
namespace Go.Bm
open Go.RowKit
def bpb(args:List T)(ga:List Bool):Ct:=⟨args,ga,fun _=>[],[(false,.fz .bool)],fun _=>(true,()),false,none⟩
theorem law_of_ct{P:Program}{f:FuncId}{args:List T}{ga:List Bool}(h:bn P f (bpb args ga)){vs:List Value}{w:World}{x:dy args}(hE:ErrG P (fun b=>b<w.heap.size) w)(hr:oi (fun b=>b<w.heap.size) w ga args x vs) :
  Calls P f vs.toArray w fun e w'=>e=.returned (.bool true)/\Below w.heap.size w w':=
 (h.2 (fun b=>b<w.heap.size) w vs x hE (fun _ hb=>hb) hr trivial).mono fun e w' ⟨rs,S,he,hx,_,hres⟩=>by simp only[bpb,ji]at hres;obtain⟨u,us',us,S1,S2,rfl,_,g2,_,_,_,hrel,rfl⟩:=hres;have:=g2 trivial;subst this;simp only[Rel,ai,a0i,a0b]at hrel;subst hrel;exact⟨he,hx.os,hx.tape.t,hx.output,hx.size,fun k hk=>hx.old k hk⟩
end Go.Bm
/- The du machine:what a function's law is made of:loops,tables of contracts,measures of data. -/
namespace Go.Bm
open Go.RowKit
def qg(f:Func):Code:=match f.body with|some c=>c|none=>.skip
def lkp:List (Nat×Ct)->FuncId->Option Ct
 |[],_=>none
 |(k,c)::r,f=>bif Nat.beq k f then some c else lkp r f
theorem ao{P:Program}:z7 P (lkp []):=fun f ct h=>by cases h
theorem af{P:Program}{k:Nat}{c:Ct}{r:List (Nat×Ct)}(h:bn P k c)(hr:z7 P (lkp r)):z7 P (lkp ((k,c)::r)):=by
 intro f ct hf;simp only[lkp]at hf
 cases hb:Nat.beq k f with
 |true=>rw[hb]at hf;have:=a0v hb;subst this;cases hf;exact h
 |false=>rw[hb]at hf;exact hr f ct hf
def aa7:List (Nat×Nat)->Nat->Nat
 |[],_=>0
 |(k,c)::r,f=>bif Nat.beq k f then c else aa7 r f
theorem bz{S:Type}{body:S->(S->Prop)->Prop}(R:S->Prop)(μ:S->Nat)
  (h:∀s next,R s->(∀s',R s'->μ s'<μ s->next s')->body s next) {s:S} (hs:R s):bc body s:=by
 have key:∀n s,R s->μ s<n->anc body n s:=by
  intro n
  induction n with
  |zero=>intro s _ h;omega
  |succ n ih=>intro s hs hn;exact h s _ hs fun s' hs' hl=>ih s' hs' (by omega)
 exact⟨μ s+1,key _ s hs (a4t _)⟩
theorem fx{n i0:Int}{body:(Int×Unit)×Unit->((Int×Unit)×Unit->Prop)->Prop}(P:Int->Prop)(hn:i0<=n)(h0:P i0)
  (hs:∀i next,i0<=i->i<n->P i->(P (i+1)->next ((i+1,()),()))->body ((i,()),()) next) (he:∀next,P n->body ((n,()),()) next):bc body ((i0,()),()):=by
 refine bz (fun s=>i0<=s.1.1/\s.1.1<=n/\P s.1.1) (fun s=>(n-s.1.1).toNat) ?_ ⟨a0r _,hn,h0⟩;rintro⟨⟨i,_⟩,_⟩ next ⟨h1,h2,h3⟩ hnx
 dsimp only at h1 h2 h3 hnx;by_cases e:i=n
 ·subst e;exact he next h3
 ·exact hs i next h1 (by omega) h3 fun h4=>hnx _ ⟨by dsimp only;omega,by dsimp only;omega,h4⟩ (by dsimp only;omega)
theorem bbq{α:Type}{x:α}{n i0:Int}{body:(Unit×(Int×Unit))×(α×Unit)->((Unit×(Int×Unit))×(α×Unit)->Prop)->Prop}(P:Int->Prop)(hn:i0<=n)(h0:P i0)
  (hs:∀i next,i0<=i->i<n->P i->(P (i+1)->next (((),(i+1,())),(x,())))->body (((),(i,())),(x,())) next) (he:∀next,P n->body (((),(n,())),(x,())) next):bc body (((),(i0,())),(x,())):=by
 refine bz (fun s=>s.2.1=x/\i0<=s.1.2.1/\s.1.2.1<=n/\P s.1.2.1) (fun s=>(n-s.1.2.1).toNat) ?_ ⟨rfl,a0r _,hn,h0⟩;rintro⟨⟨_,i,_⟩,y,_⟩ next ⟨hy,h1,h2,h3⟩ hnx
 dsimp only at hy h1 h2 h3 hnx;subst hy;by_cases e:i=n
 ·subst e;exact he next h3
 ·exact hs i next h1 (by omega) h3 fun h4=>hnx _ ⟨rfl,by dsimp only;omega,by dsimp only;omega,h4⟩ (by dsimp only;omega)
theorem mn{α:Type}(l:List α)(d:α){i:Int}(h0:0<=i)(h1:i<l.length):l.drop i.toNat=l.getD i.toNat d::l.drop (i+1).toNat:=by
 have h:i.toNat<l.length:=by omega
 rw[a4d h,show (i+1).toNat=i.toNat+1 from by omega,a0n,a0o h];rfl
theorem pc{α:Type}(l:List α){i:Int}(h1:(l.length:Int)<=i):l.drop i.toNat=[]:=a4x (by omega)
theorem ii{α:Type}(l:List α)(d:α){i:Int}(h0:0<=i)(h1:i<l.length):l.take (i+1).toNat=l.take i.toNat++[l.getD i.toNat d]:=by
 have h:i.toNat<l.length:=by omega
 rw[show (i+1).toNat=i.toNat+1 from by omega,List.take_succ_eq_append_getElem h,a0n,a0o h];rfl
theorem jr{α:Type}(l:List α){i:Int}(h1:(l.length:Int)<=i):l.take i.toNat=l:=a29 (by omega)
theorem at3{α:Type}(l:List α){i:Int}(h0:0<=i)(h1:i<l.length)(x:α):(l.set i.toNat x).take (i+1).toNat=l.take i.toNat++[x]:=by
 have h:i.toNat<l.length:=by omega
 rw[show (i+1).toNat=i.toNat+1 from by omega,List.take_succ_eq_append_getElem (by simpa using h)];rw[List.take_set_of_le (by omega)];simp
theorem fb{α:Type}(l:List α)(d:α){i:Int}(h0:0<=i)(h1:i<l.length):l.getD i.toNat d∈l:=by
 have h:i.toNat<l.length:=by omega
 rw[a0n,a0o h];exact a3c h
theorem aj{n:Int}:inK .i64 n<->-9223372036854775808<=n/\n<=9223372036854775807:=by simp[inK,IntKind.min,IntKind.max,IntKind.signed,IntKind.bits]
theorem b9:nb=140737488355328:=rfl
theorem aw{b:Bool}{x y:Prop}(h1:b=true->x)(h2:b=false->y):cnd b x y:=⟨h1,h2⟩
theorem al{p:Prop}[Decidable p]{x y:Prop}(h1:p->x)(h2:¬p->y):cnd (decide p) x y:=⟨fun h=>h1 (a4w h),fun h=>h2 (a4y h)⟩
theorem g7{S:Type}{k:S->Prop}{f:(S->Prop)->Prop}(R:S->Prop)(hk:∀s,R s->k s)(hf:∀k',(∀s,R s->k' s)->f k'):jd k f:=hf k hk
theorem bts {P : Program} {B : Tab} {Φ : FuncId -> Option Ct} (hΦ : z7 P Φ) (hB : TabOk P B) (hmix : P.follows .mixedOrders = true) {f : FuncId} {fn : Func} {c : Code} (hf : P.funcs[f]? = some fn) (hb : fn.body = some c) (hn : (fn.name == "runtime.NumGoroutine") = false) (ct : Ct) (hmu : ct.mu = none) (A : Ann) (cut : Nat -> Nat)
  (hga:ct.ga=agL B fn) (hfl:orb ct.sh (ajs ct.rt)=true) (hck:okC fn.ntmps cut c=true) (hlen:ct.ga.length<=fn.ntmps)
  (W:dy ct.args->(je ct.rt->Prop)->Prop) (hw:∀x K,evF B Φ cut fn c A ct x K=W x K) (hm:∀x,ab (okL ct.args x)->ab (ct.pre x)->W x (fun r=>r=ct.res x)):bn P f ct:=
 btn hΦ hB hmix hf hb hn ct hmu A cut hga hfl hck hlen fun x h1 h2=>(hw x _).mpr (hm x h1 h2)
def wR:(t:T)->t.den->Nat
 |.int _,_=>0
 |.bool,_=>0
 |.str,s=>s.size
 |.u,_=>0
 |.p a b,x=>wR a x.1+wR b x.2
 |.sl e,l=>l.length+(l.map (wR e)).sum
 |.pt t,x=>wR t x
 |.fn _ t,x=>wR t x
 |.ifc _ t,x=>wR t x
 |.mp _ _,_=>0
 |.op _,_=>0
 |.ns _,_=>0
 |.er _,_=>0
 |.any,_=>0
theorem amv{e:T}(l:List e.den):wR (.sl e) l=l.length+(l.map (wR e)).sum:=rfl
theorem agp{a b:T}(x:a.den×b.den):wR (.p a b) x=wR a x.1+wR b x.2:=rfl
theorem xz{k:IntKind}(x:Int):wR (.int k) x=0:=rfl
theorem u6(x:Bool):wR .bool x=0:=rfl
theorem blu{e:T}{l:List e.den}{x:e.den}(h:x∈l):wR e x<=(l.map (wR e)).sum:=by
 induction l with
 |nil=>cases h
 |cons y l ih=>
  simp only[a05,a2e]
  cases h with
  |head=>omega
  |tail _ h=>have:=ih h;omega
theorem bom{k:IntKind}(l:List Int):(l.map (wR (.int k))).sum=0:=by
 induction l with
 |nil=>rfl
 |cons x l ih=>rw[a05,a2e,ih];rfl
theorem bqy{k:IntKind}(l:List Int):wR (.sl (.int k)) l=l.length:=by rw[wR,bom];rfl
def szR(n:Nat)(left:Int):Int:=if left<n then -1 else left-n
theorem akv{n:Nat}{l:Int}:szR n l<0<->l<n:=by unfold szR;split <;> omega
theorem avk{x r:Nat}{l:Int}(h:l<x):szR (x+r) l=-1:=by unfold szR;rw[d0 (by omega)]
theorem avo{x r:Nat}{l:Int}(h:¬l<x):szR (x+r) l=szR r (szR x l):=by unfold szR;rw[ds h];split <;> split <;> omega
theorem ap7{x:Nat}{l:Int}(h:¬l<x):szR x l=l-x:=by unfold szR;rw[ds h]
theorem bd1{l:Int}(h:0<=l):szR 0 l=l:=by unfold szR;split <;> omega
theorem awm{a b:T}(x y:a.den×b.den):eqR (.p a b) x y=(eqR a x.1 y.1&&eqR b x.2 y.2):=by rw[a3x];simp only[dc,a0a];exact Prod.ext_iff
theorem akw{k:IntKind}(x y:Int):eqR (.int k) x y=(x==y):=by rw[a3x];simp only[dc,a0t]
theorem am9(x y:Bool):eqR .bool x y=(x==y):=by rw[a3x];simp only[dc,a0t]
end Go.Bm
/- The du machine:an argument of a law,as it comes in. -/
namespace Go.Bm
open Go.RowKit Go.WideShapes
def bn6(P:Program)(t:TypeId):Bool:=match P.underlying t with|some (.struct _)=>true|_=>false
theorem open_arg{H:Type}{enc:TypeId×Value->H}{P:Program}{W:World}{base b1:Nat}{spare:Nat->Bool}{held:Bool}{t:TypeId}{v:Value}{dd:DataW H}{ps:List MemPlace}(n:Nat)(d:T)(g:Bool)
  (hty:du P n t d=true) (hg:bn6 P t=g) (hv:Value.okWide P W .any b1 t v) (hk:DataW.Trod enc P W base spare held t v dd ps) (hw:(dd.weights P t).all (·<=reachBytes)=true) :
  ∃(y:d.den) (vs:List Value),(g=true->v=.agg vs.toArray)/\(g=false->vs=[v])/\ai (fun b=>b<W.heap.size) W d y vs:=by
 obtain⟨fuel,hf⟩:=hk;obtain⟨y,hy⟩:=brp n t d hty fuel _ _ hf hw;refine⟨y,v.cells.toList,fun h=>?_,fun h=>?_,hy⟩
 ·subst hg;simp only[bn6]at h;split at h
  ·rename_i fs hu;obtain⟨cs,rfl,_⟩:=okWide_struct hu hv;simp[Value.cells]
  ·cases h
 ·subst hg
  cases n with
  |zero=>simp[du]at hty
  |succ n=>
   unfold du at hty;split at hty
   ·rename_i k k' hu;obtain⟨m,rfl⟩:=okWide_int hu hv;rfl
   ·rename_i hu;obtain⟨m,rfl⟩:=okWide_bool hu hv;rfl
   ·rename_i hu;obtain⟨m,rfl⟩:=okWide_string hu hv;rfl
   ·rename_i e d' hu;obtain⟨a,l,c,rfl⟩:=okWide_slice hu hv;rfl
   ·rename_i fs hu;simp[bn6,hu]at h
   ·cases hty
end Go.Bm
/- The du machine:a function that writes what it is handed. -/
namespace Go.Bm
open Go.RowKit
def asg(m:Mt):Ct:=⟨[],[],fun _=>[],[],fun _=>(),false,some (.m m)⟩
def asI:V->Option Int
 |.d t y=>od (a:=t) (.int .i64) y
 |_=>none
def ba1(B:Tab)(rs:List ResultVar)(m:Mt)(K:m.o.strip.den->Int->Prop)(env:Env)(M:Mem):Prop:=
 match rs with
 |[r]=>bif ya (gz (gt env 0).cells)then (match aw6 B env M r with
  |some v=>(match asI v,uu M m.o (gt env 0).cells with
   |some n,some x=>K x n
   |_,_=>False)
  |none=>False)else False
 |_=>False
def endM(B:Tab)(rs:List ResultVar)(m:Mt)(K:m.o.strip.den->Int->Prop):Ex->Env->Mem->Prop
 |.ex _,_,_=>False
 |.go _,_,_=>False
 |.nm,env,M=>ba1 B rs m K env M
 |.rt,env,M=>ba1 B rs m K env M
def evFm(B:Tab)(Φ:FuncId->Option Ct)(cut:Nat->Nat)(fn:Func)(c:Code)(A:Ann)(m:Mt)(x:m.o.strip.den)(k:Int)(K:m.o.strip.den->Int->Prop):Prop:=
 match fo 9000 0 m.o x with
 |(v,N,_)=>ev B Φ cut c A (endM B (toL fn.results) m K) (aa4 0 [xd m.g v,.d (.int .i64) k]) N
def bdr:O->Bool
 |.fz _=>true
 |.p a b=>nob (bdr a) (bdr b)
 |.sl _=>true
 |.pt _=>false
 |.mp _ _=>false
 |.op _=>false
section
variable {w:World}
structure Inn (w:World) (j j':Nat) (N:Mem) (v:V) (vs:List Value) (S:Nat->Prop) (β:Nat->Value) (σ:Nat->Nat->Prop):Prop where
 le:j<=j'
 keys:∀k,bt N k->∃i,j<=i/\i<j'/\k=cid 9000 i
 objs:∀(Im:Nat->Prop) k ob,go N k=some ob->Rel Im w ob.o ob.x (σ k) [β k]
 sub:∀k b,bt N k->σ k b->S b
 dis:∀k k' b,k≠k'->bt N k->bt N k'->σ k b->¬σ k' b
 val:∀(Im:Nat->Prop) (β':Nat->Value) (M':Mem),(∀k,bt N k->β' k=β k/\go M' k=go N k)->aa β' M' Im w v vs
theorem bci:(o:O)->bdr o=true->o.flat=true->(j:Nat)->(x:o.strip.den)->(S:Nat->Prop)->(vs:List Value)->Rel (fun _=>False) w o x S vs->
  ∃β σ,Inn w j (fo 9000 j o x).2.2 (fo 9000 j o x).2.1 (fo 9000 j o x).1 vs S β σ
 |.fz t,_,hf,j,x,S,vs,r=>by
  simp only[Rel]at r;simp only[O.flat]at hf;refine⟨fun _=>undef,fun _ _=>False,a0f _,fun k hk=>?_,fun Im k ob hk=>?_,fun k b _ h=>h.elim,fun k k' b _ _ _ h=>h.elim,fun Im β' M' _=>?_⟩
  ·simp[fo,bt,go]at hk
  ·simp[fo,go]at hk
  ·simp only[fo];exact fw t x vs (aac t hf x vs r)
 |.sl e,_,hf,j,x,S,vs,r=>by
  have r0:=r;simp only[Rel]at r0;obtain⟨v,ety,xs,T,rfl,_⟩:=r0;refine⟨fun _=>v,fun _=>S,a2v _,fun k hk=>⟨j,a0f _,a4t _,?_⟩,fun Im k ob hk=>?_,fun k b _ h=>h,fun k k' b hne hk hk'=>?_,fun Im β' M' h=>?_⟩
  ·simp only[fo,bt,c8]at hk;split at hk
   ·rename_i h;exact h.symm
   ·simp[go]at hk
  ·simp only[fo,c8]at hk;split at hk
   ·cases hk;exact ub _ hf _ _ _ r
   ·simp[go]at hk
  ·exfalso
   have one:∀k,bt (fo 9000 j (.sl e) x).2.1 k->k=cid 9000 j:=fun k hk=>by
    simp only[fo,bt,c8]at hk;split at hk
    ·rename_i h;exact h.symm
    ·simp[go]at hk
   exact hne ((one k hk).trans (one k' hk').symm)
  ·have hl:bt (fo 9000 j (.sl e) x).2.1 (cid 9000 j):=by simp[fo,bt,c8]
   obtain⟨h1,h2⟩:=h _ hl;simp only[fo,aa];have hg:go M' (cid 9000 j)=some (⟨.sl e,x⟩:Ob):=by rw[h2];simp only[fo,c8,a01]
   refine⟨_,none,hg,by simp only[gok],⟨⟨.sl e,x⟩,by simp only[get]⟩,by simp only[res,h1]⟩
 |.pt _,h,_,_,_,_,_,_=>by cases h
 |.mp _ _,h,_,_,_,_,_,_=>by cases h
 |.op _,h,_,_,_,_,_,_=>by cases h
 |.p a b,h,hf,j,x,S,vs,r=>by
  simp only[O.flat,am,a0a]at hf;simp only[bdr,am,a0a]at h;simp only[Rel]at r;obtain⟨va,vb,S1,S2,rfl,s1,s2,s3,ra,rb⟩:=r;obtain⟨βa,σa,A⟩:=bci a h.1 hf.1 j x.1 S1 va ra;obtain⟨βb,σb,B⟩:=bci b h.2 hf.2 (fo 9000 j a x.1).2.2 x.2 S2 vb rb;simp only[fo];generalize fo 9000 j a x.1=q1 at A B⊢;obtain⟨v1,N1,j1⟩:=q1;simp only at A B⊢;generalize fo 9000 j1 b x.2=q2 at B⊢;obtain⟨v2,N2,j2⟩:=q2;simp only at B⊢;have hne:∀k,bt N1 k->¬bt N2 k:=fun k h1 h2=>by obtain⟨i,_,i2,i3⟩:=A.keys k h1;obtain⟨i',i1',_,i3'⟩:=B.keys k h2;have:=be8 (i3.symm.trans i3');omega
  have hgo:∀k,go (ap N2 N1) k=match go N2 k with|some ob=>some ob|none=>go N1 k:=fun k=>by exact acw N2 N1 k
  have hlv:∀k,bt (ap N2 N1) k->bt N1 k/\go (ap N2 N1) k=go N1 k\/bt N2 k/\go (ap N2 N1) k=go N2 k:=fun k hk=>by
   have:=hgo k
   cases h2:go N2 k with
   |some ob=>rw[h2]at this;exact .inr ⟨bo h2,this⟩
   |none=>rw[h2]at this;simp only at this;exact .inl ⟨by unfold bt at hk⊢;rw[←this];exact hk,this⟩
  have h1l:∀k,bt N1 k->bt (ap N2 N1) k/\go (ap N2 N1) k=go N1 k:=fun k hk=>by
   have:=hgo k
   cases h2:go N2 k with
   |some ob=>exact (hne k hk (bo h2)).elim
   |none=>rw[h2]at this;simp only at this;exact⟨by unfold bt;rw[this];exact hk,this⟩
  have h2l:∀k,bt N2 k->bt (ap N2 N1) k/\go (ap N2 N1) k=go N2 k:=fun k hk=>by have:=hgo k;obtain⟨ob,hob⟩:=ahx hk;rw[hob]at this⊢;exact⟨bo this,this⟩
  obtain⟨β,σ,e1,e2⟩:∃(β:Nat->Value) (σ:Nat->Nat->Prop),(∀k,bt N1 k->β k=βa k/\σ k=σa k)/\(∀k,bt N2 k->β k=βb k/\σ k=σb k):=by
   classical
   exact⟨fun k=>if bt N1 k then βa k else βb k,fun k=>if bt N1 k then σa k else σb k,fun k hk=>by simp[hk],fun k hk=>by have:¬bt N1 k:=fun h=>hne k h hk;simp[this]⟩
  refine⟨β,σ,a08 A.le B.le,fun k hk=>?_,fun Im k ob hk=>?_,fun k b hk hs=>?_,fun k k' b hne' hk hk' hs=>?_,fun Im β' M' hv=>?_⟩
  ·rcases hlv k hk with⟨h,_⟩|⟨h,_⟩
   ·obtain⟨i,i1,i2,i3⟩:=A.keys k h;exact⟨i,i1,a1o i2 B.le,i3⟩
   ·obtain⟨i,i1,i2,i3⟩:=B.keys k h;exact⟨i,a08 A.le i1,i2,i3⟩
  ·rcases hlv k (bo hk)with⟨h,he⟩|⟨h,he⟩
   ·rw[(e1 k h).1,(e1 k h).2];exact A.objs Im k ob (by rw[←he];exact hk)
   ·rw[(e2 k h).1,(e2 k h).2];exact B.objs Im k ob (by rw[←he];exact hk)
  ·rcases hlv k hk with⟨h,_⟩|⟨h,_⟩
   ·rw[(e1 k h).2]at hs;exact s1 b (A.sub k b h hs)
   ·rw[(e2 k h).2]at hs;exact s2 b (B.sub k b h hs)
  ·rcases hlv k hk with⟨h,_⟩|⟨h,_⟩
   ·rw[(e1 k h).2]at hs;rcases hlv k' hk' with⟨h',_⟩|⟨h',_⟩
    ·rw[(e1 k' h').2];exact A.dis k k' b hne' h h' hs
    ·rw[(e2 k' h').2];exact fun hs'=>s3 b (A.sub k b h hs) (B.sub k' b h' hs')
   ·rw[(e2 k h).2]at hs;rcases hlv k' hk' with⟨h',_⟩|⟨h',_⟩
    ·rw[(e1 k' h').2];exact fun hs'=>s3 b (A.sub k' b h' hs') (B.sub k b h hs)
    ·rw[(e2 k' h').2];exact B.dis k k' b hne' h h' hs
  ·simp only[aa];exact⟨va,vb,rfl,A.val Im β' M' (fun k hk=>by rw[(hv k (h1l k hk).1).1,(hv k (h1l k hk).1).2,(e1 k hk).1,(h1l k hk).2];exact⟨rfl,rfl⟩),B.val Im β' M' (fun k hk=>by rw[(hv k (h2l k hk).1).1,(hv k (h2l k hk).1).2,(e2 k hk).1,(h2l k hk).2];exact⟨rfl,rfl⟩)⟩
theorem bhu{M:Mem}{o:O}{v:V}{x:o.strip.den}(h:uu M o v.cells=some x):kw v=true:=by
 cases v with
 |any=>cases o with
  |fz t=>exact ae1 (v:=.any) (by simpa[uu,V.cells]using h)
  |_=>simp[uu,V.cells]at h
 |tup y=>cases o with
  |fz t=>exact ae1 (v:=.tup y) (by simpa[uu,V.cells]using h)
  |_=>simp[uu,V.cells]at h
 |gd a b c y=>cases o with
  |fz t=>exact ae1 (v:=.gd a b c y) (by simpa[uu,V.cells]using h)
  |_=>simp[uu,V.cells]at h
 |ifc a y=>cases o with
  |fz t=>exact ae1 (v:=.ifc a y) (by simpa[uu,V.cells]using h)
  |_=>simp[uu,V.cells]at h
 |_=>rfl
variable {P:Program} {B:Tab} {Φ:FuncId->Option Ct}
theorem arf (hΦ : z7 P Φ) (hB : TabOk P B) (hmix : P.follows .mixedOrders = true) {f : FuncId} {fn : Func} {c : Code} (hf : P.funcs[f]? = some fn) (hb : fn.body = some c) (hn : (fn.name == "runtime.NumGoroutine") = false) (m : Mt) (A : Ann) (cut : Nat -> Nat)
  (hfl:m.o.flat=true) (hnp:bdr m.o=true) (hck:okC fn.ntmps cut c=true) (hlen:2<=fn.ntmps) (hnw:noW [0] c=true)
  (h:∀x k,inK .i64 k->ab (m.o.strip.oks x)->ab (m.pre x k)->evFm B Φ cut fn c A m x k (fun y n=>y=(m.res x k).1/\n=(m.res x k).2)):bn P f (asg m):=by
 refine⟨tq hf hb hn,hfl,fun Ab w u vs x k S hE hSA hg1 hg2 hr hS hk hpre=>?_⟩;let a0:Act:={ tmps:=#[u,.int .i64 k]++Array.replicate (fn.ntmps-(#[u,.int .i64 k]:Array Value).size) undef,defers:=[] }
 have hoks:ab (m.o.strip.oks x):=by have:=Rel.frz (Im':=fun _=>True) (fun _ h=>h.elim) m.o x S vs (fun _ _=>trivial) hr;exact lq _ _ (ai.ok _ _ _ this)
 have he:=h x k hk hoks hpre;unfold evFm at he;let F:Fr:=⟨w,w,Ab,S,fun _=>False,fn.ntmps,xo (fun _=>none) [0] a0⟩
 obtain⟨β,σ,I⟩:=bci m.o hnp hfl 0 x S vs hr;generalize hq:fo 9000 0 m.o x=q at he I;obtain⟨v0,N,j'⟩:=q;simp only at he I;let p0:Ow:=⟨β,σ,fun _=>False⟩
 have hsz:a0.tmps.size=fn.ntmps:=by simp[a0];omega
 have ht0:a0.tmps.getD 0 undef=u:=by simp[a0,a3d,a4z]
 have ht1:a0.tmps.getD 1 undef=.int .i64 k:=by simp[a0,a3d,a4z]
 have hp0:Hp F p0 N w:=⟨fun k ob hk=>I.objs _ k ob hk,fun k k' b hne hk hk'=>I.dis k k' b hne hk hk',fun k b hk hs=>⟨hS b (I.sub k b hk hs),.inl ⟨by obtain⟨i,_,_,e⟩:=I.keys k hk;rw[e];unfold cid gid;exact Nat.le_add_right _ _,I.sub k b hk hs⟩⟩,fun b hb=>hb.elim,rfl,⟨rfl,a0f _⟩,rfl,a0f _,fun b _ _=>rfl⟩
 have hst:St F p0 (aa4 0 [xd m.g v0,.d (.int .i64) k]) N a0 w:=by
  refine⟨rfl,hsz,fun t v ht=>?_,fun b hb=>hb.elim,fun b hb=>hb,fun t=>?_,hp0⟩
  ·simp only[F,xo]at ht
   cases hm:vn t [0]with
   |true=>rw[hm]at ht;simpa using ht
   |false=>rw[hm]at ht;cases ht
  ·rw[ahv];simp only[a09,a01,a3r]
   match t with
   |0=>
    rw[ht0];have rc:=I.val (Imm F p0 N w) β N (fun k _=>⟨rfl,rfl⟩);simp only[a1s,a0z]
    cases hg:m.g with
    |true=>simp only[xd,a0c,ah];exact⟨vs,hg1 hg,rc⟩
    |false=>have e:=hg2 hg;subst e;simp only[xd,a0g];exact a7 rc
   |1=>rw[ht1];simp only[a2h,a1s,a0z];rw[bd,c9];exact⟨rfl,hk⟩
   |t+2=>simp only[a2h,List.getElem?_nil,a3n,ah]
 refine a4f hf hb (a2p (fun e a' w' he=>?_) (yx hΦ hB hmix cut c F (hE.of fun b hb _=>⟨⟨hb,fun hs=>hSA b hs hb⟩,rfl⟩) A _ _ _ hck (p7 c hnw (qb c)) he p0 _ w hst))
 have key:∀p env M,St F p env M a' w'->ba1 B (toL fn.results) m (fun y n=>y=(m.res x k).1/\n=(m.res x k).2) env M->(e=.normal\/e=.ret)->bodyPost P fn (fun e w'=>e=.returned (.int .i64 (m.res x k).2)/\ExtS w w' S/\inK .i64 (m.res x k).2/\
   ∃S':Nat->Prop,Rel (fun _=>False) w' m.o (m.res x k).1 S' vs/\∀b,S' b->S b\/w.heap.size<=b/\b<w'.heap.size) e a' w':=by
  intro p env M hs hr hee;unfold ba1 at hr;split at hr
  ·rename_i rv hrv
   cases hnd:ya (gz (gt env 0).cells)with
   |false=>rw[hnd]at hr;exact hr.elim
   |true=>
   rw[hnd]at hr;simp only[a0c]at hr;split at hr
   ·rename_i v hv;split at hr
    ·rename_i n y hn hy;obtain⟨rfl,rfl⟩:=hr;obtain⟨r,k1,k2⟩:=awx (P:=P) (a:=a') hB hs.hp hs.slots rv v hv
     have hr1:r=.int .i64 (m.res x k).2/\inK .i64 (m.res x k).2:=by
      cases v with
      |d t z=>simp only[asI]at hn;rw[bd]at k2;have:=tv hn k2;rw[c9]at this;exact this
      |_=>simp[asI]at hn
     obtain⟨rfl,hin⟩:=hr1;have hu0:a'.tmps.getD 0 undef=u:=by have:=hs.fix 0 (a0.tmps.getD 0 undef) (by simp[F,xo,vn]);rw[this,ht0]
     have hs0:=hs.slots 0;rw[hu0]at hs0;have hrun:(results fn a'.tmps).run P w'=.ok (.int .i64 (m.res x k).2) w':=by rw[adn,a4g];rw[dh]at hrv;rw[hrv];simp[k1]
     have hc0:aa p.β M (Imm F p M w') w' (gt env 0).cells vs:=by
      obtain⟨vs1,z1,z2,z3⟩:=xn hs.hp hs0 (bhu hy)
      cases hag:qd (gt env 0)with
      |true=>
       have e1:=z1 hag
       cases hg:m.g with
       |true=>
        have e2:=hg1 hg;rw[e1]at e2;simp only[Value.agg.injEq]at e2;have:vs1=vs:=by simpa using e2
        rw[←this];exact z3
       |false=>have e2:=hg2 hg;have:=Rel.one _ _ _ _ hr u (by rw[e2];simp);rw[e1]at this;cases this
      |false=>
       have e1:=z2 hag
       cases hg:m.g with
       |true=>have e2:=hg1 hg;have:=aa.one hs.hp _ _ z3 u (by rw[e1];simp);rw[e2]at this;cases this
       |false=>rw[hg2 hg,←e1];exact z3
     obtain⟨S',q1,q2,_⟩:=aqr hs.hp m.o hfl _ vs _ hc0 hy hnd
     have hpost:Ending.returned (.int .i64 (m.res x k).2)=.returned (.int .i64 (m.res x k).2)/\ExtS w w' S/\inK .i64 (m.res x k).2/\∃S':Nat->Prop,Rel (fun _=>False) w' m.o (m.res x k).1 S' vs/\∀b,S' b->S b\/w.heap.size<=b/\b<w'.heap.size:=by
      refine⟨rfl,⟨hs.hp.os,hs.hp.tape,hs.hp.output,hs.hp.size,fun b hb hn=>hs.hp.old b hb hn⟩,hin,S',q1,fun b hb=>?_⟩;obtain⟨j,_,j2,j3⟩:=q2 b hb;have:=hs.hp.own j b j2 j3;rcases this.2 with⟨_,h1⟩|h1
      ·exact .inl h1
      ·exact .inr ⟨h1,this.1⟩
     rcases hee with rfl|rfl
     ·exact⟨hs.defers,_,hrun,hpost⟩
     ·exact⟨hs.defers,_,hrun,hpost⟩
    ·exact hr.elim
   ·exact hr.elim
  ·exact hr.elim
 cases e with
 |normal=>obtain⟨p,env,M,h1,h2⟩:=he;exact key p env M h1 h2 (.inl rfl)
 |ret=>obtain⟨p,env,M,h1,h2⟩:=he;exact key p env M h1 h2 (.inr rfl)
 |exit id=>obtain⟨p,env,M,h1,h2⟩:=he;exact h2.elim
 |goto l=>obtain⟨p,env,M,h1,h2⟩:=he;exact h2.elim
 |panic ch=>exact he.elim
 |outgrown=>exact he.elim
end
end Go.Bm
/- The du machine:a function that writes what lies in the box that it is handed. -/
namespace Go.Bm
open Go.RowKit
def ax3(W:Wt):Ct:=⟨[],[],fun _=>[],[],fun _=>(),false,some (.w W)⟩
def aqy{α:Type}:List α->List α
 |[]=>[]
 |_::r=>r
def auk:O->Nat->V
 |.pt _,k=>.ad k [.de]
 |_,k=>.ref k []
def al4(B:Tab)(env:Env)(M:Mem):List ResultVar->(rs:List (Bool×O))->Option (je rs×List Ev×Mem)
 |[],[]=>some ((),[],M)
 |r::rs,q::qs=>(match aw6 B env M r with
  |some v=>bif kw (mo q.1 v)then (match bjh M q.2 (mo q.1 v)with
   |some (x,e,M')=>(match al4 B (rp env e) M' rs qs with
    |some (y,e',M'')=>some ((x,y),ap e e',M'')
    |none=>none)
   |none=>none)else none
  |none=>none)
 |_,_=>none
def baz(B:Tab)(rs:List ResultVar)(W:Wt)(K:W.o.strip.den->je W.rt->Prop)(env:Env)(M:Mem):Prop:=
 match al4 B env M rs W.rt with
 |some (r,e,M')=>(match afg ((gt env 0).evs e)with
  |some k=>(match go M' k with
   |some ob=>(match wkO ob W.o with
    |some z=>K z r
    |none=>False)
   |none=>False)
  |none=>False)
 |none=>False
def endW(B:Tab)(rs:List ResultVar)(W:Wt)(K:W.o.strip.den->je W.rt->Prop):Ex->Env->Mem->Prop
 |.ex _,_,_=>False
 |.go _,_,_=>False
 |.nm,env,M=>baz B rs W K env M
 |.rt,env,M=>baz B rs W K env M
def bo0(B:Tab)(Φ:FuncId->Option Ct)(cut:Nat->Nat)(fn:Func)(c:Code)(A:Ann)(W:Wt)(x:W.o.strip.den)(y:dy W.as)(K:W.o.strip.den->je W.rt->Prop):Prop:=ev B Φ cut c A (endW B (toL fn.results) W K) (aa4 0 (auk W.o (cid 9000 0)::xj B (aqy (toL fn.params)) W.as y)) [(cid 9000 0,⟨W.o,x⟩)]
section
variable {F:Fr} {a:Act} {w:World} {P:Program} {B:Tab} {Φ:FuncId->Option Ct}
theorem bbo(hB:TabOk P B):(rs:List ResultVar)->(qs:List (Bool×O))->(p:Ow)->(env:Env)->(M:Mem)->(y:je qs)->(e:List Ev)->(M':Mem)->Hp F p M w->(∀t,ah p.β M (Imm F p M w) w (gt env t) (a.tmps.getD t undef))->al4 B env M rs qs=some (y,e,M')->
  ∃us p',∃S:Nat->Prop,(rs.mapM (bck a.tmps)).run P w=.ok us w/\Tr F p M w e p' M' w/\(∀b,p.L b->p'.L b)/\(∀b,S b->p'.L b)/\(∀b,S b->¬p.L b)/\ji (Imm F p' M' w) w qs y S us
 |[],[],p,env,M,y,e,M',hp,hs,h=>by simp only[al4,a0d,a0j]at h;obtain⟨_,rfl,rfl⟩:=h;exact⟨[],p,fun _=>False,rfl,Tr.refl hp,fun b hb=>hb,fun b hb=>hb.elim,fun b hb=>hb.elim,by simp only[ji]⟩
 |[],_::_,p,env,M,y,e,M',hp,hs,h=>by simp[al4]at h
 |_::_,[],p,env,M,y,e,M',hp,hs,h=>by simp[al4]at h
 |r::rs,q::qs,p,env,M,y,e,M',hp,hs,h=>by
  simp only[al4]at h;split at h
  ·rename_i v hv
   cases hc:kw (mo q.1 v)with
   |false=>rw[hc]at h;cases h
   |true=>
    rw[hc]at h;simp only[a0c]at h;split at h
    ·rename_i x e1 M1 ho;split at h
     ·rename_i z e2 M2 hz;cases h;obtain⟨u,u1,u2⟩:=awx (P:=P) (a:=a) hB hp hs r v hv;obtain⟨vs,g1,g2,g3⟩:=bgm hp u2 hc;obtain⟨p1,S,t1,t2,t3,t4⟩:=be2 hp q.2 (mo q.1 v) vs x e1 g3 ho;obtain⟨us,p2,S2,k1,k3,k4,k5,k6,k7⟩:=bbo hB rs qs p1 (rp env e1) M1 z e2 M' t1.hp (fun t=>by rw[u5];exact t1.s _ _ (hs t)) hz;refine⟨u::us,p2,fun b=>S b\/S2 b,?_,t1.trans k3,fun b hb=>k4 b ((t2 b).2 (.inl hb)),fun b hb=>hb.elim (fun h=>k4 b ((t2 b).2 (.inr h))) (k5 b),fun b hb=>hb.elim (t3 b) (fun h hL=>k6 b h ((t2 b).2 (.inl hL))),?_⟩
      ·simp only[List.mapM_cons,a1j,u1,a1r,k1,a2m]
      ·simp only[ji];exact⟨u,us,vs,S,S2,rfl,g1,g2,fun b hb=>.inl hb,fun b hb=>.inr hb,fun b hb hb'=>k6 b hb' ((t2 b).2 (.inr hb)),Rel.keep k3.keep _ _ _ _ (fun _ _=>rfl) t4,k7⟩
     ·cases h
    ·cases h
  ·cases h
theorem wt_q (hΦ : z7 P Φ) (hB : TabOk P B) (hmix : P.follows .mixedOrders = true) {f : FuncId} {fn : Func} {c : Code} (hf : P.funcs[f]? = some fn) (hb : fn.body = some c) (hn : (fn.name == "runtime.NumGoroutine") = false) (W : Wt) (pr : W.o.strip.den -> dy W.as -> Prop) (Q : W.o.strip.den -> dy W.as -> W.o.strip.den -> je W.rt -> Prop) (A : Ann) (cut : Nat -> Nat)
  (hro:al9 W.o=true) (hga:false::W.ag=agL B fn) (hck:okC fn.ntmps cut c=true) (hlen:W.ag.length+1<=fn.ntmps) (hnw:noW [0] c=true)
  (h:∀x y,ab (W.o.strip.oks x)->ab (okL W.as y)->pr x y->bo0 B Φ cut fn c A W x y (Q x y)) :
  ∀(A:Nat->Prop) (w:World) (u:Value) (x:W.o.strip.den) (us:List Value) (y:dy W.as) (S:Nat->Prop),ErrG P A w->(∀b,A b->b<w.heap.size)->(∀b,S b->b<w.heap.size/\¬A b)->
  Rel (fun b=>A b) w W.o x S [u]->oi A w W.ag W.as y us->pr x y->
  Calls P f (u::us).toArray w fun e w'=>∃z r rs R S',Q x y z r/\e=.returned (nx rs)/\ExtS w w' S/\(∀b,R b->w.heap.size<=b/\b<w'.heap.size)/\(∀b,S' b->(S b\/w.heap.size<=b/\b<w'.heap.size)/\¬R b)/\
   Rel (fun b=>b<w'.heap.size/\(A b\/S b\/w.heap.size<=b)/\¬S' b/\¬R b) w' W.o z S' [u]/\
   ji (fun b=>b<w'.heap.size/\(A b\/S b\/w.heap.size<=b)/\¬S' b/\¬R b) w' W.rt r R rs:=by
 intro Ab w u x us y S hE hAlt hSlt hr hargs hpre;let a0:Act:={ tmps:=(u::us).toArray++Array.replicate (fn.ntmps-(u::us).toArray.size) undef,defers:=[] }
 have hoks:ab (W.o.strip.oks x):=by have h1:=Rel.frz (Im':=fun _=>True) (fun _ _=>trivial) W.o x S [u] (fun _ _=>trivial) hr;have h2:=lq _ _ (ai.ok _ _ _ h1);exact h2
 let F:Fr:=⟨w,w,Ab,S,fun _=>False,fn.ntmps,xo (fun _=>none) [0] a0⟩
 let p0:Ow:=⟨fun _=>u,fun _=>S,fun _=>False⟩
 have hkk:gid=cid 9000 0:=by decide
 replace h:=fun h1 h2=>h x y h1 h2 hpre;unfold bo0 at h;generalize cid 9000 0=kk at hkk h;generalize hM0:([(kk,⟨W.o,x⟩)]:Mem)=M0;have hg0:go M0 kk=some ⟨W.o,x⟩:=by rw[←hM0,c8,d0 rfl]
 have hlive:∀k,bt M0 k->k=kk:=fun k hk=>by
  unfold bt at hk;rw[←hM0,c8]at hk;split at hk
  ·rename_i e;exact e.symm
  ·simp[go]at hk
 have himm:∀b,Ab b->Imm F p0 M0 w b:=fun b hb=>⟨hAlt b hb,.inl hb,fun h=>h,fun k hk hs=>(hSlt b hs).2 hb⟩
 obtain⟨m,e⟩:∃m,W.ag=ap ((aqy (toL fn.params)).map (fun q=>(B.τ q).agg)) (ac0 false m):=by
  unfold agL at hga
  cases hq:toL fn.params with
  |nil=>
   rw[hq]at hga;simp only[a2j,ap]at hga
   cases hm:fn.nfree with
   |zero=>rw[hm]at hga;cases hga
   |succ m=>rw[hm]at hga;simp only[ac0,a0i]at hga;exact⟨m,by simp only[aqy,a2j,ap];exact hga.2⟩
  |cons q qs=>rw[hq]at hga;simp only[a05,ap,a0i]at hga;exact⟨fn.nfree,hga.2⟩
 obtain⟨l1,l2,l3,l4⟩:=al3 (B:=B) (β:=p0.β) (M:=M0) himm W.ag W.as y us hargs (aqy (toL fn.params)) m e;have he:=h hoks l3;rw[hM0]at he;have hsz:a0.tmps.size=fn.ntmps:=by simp[a0];omega
 have hget:∀t,t<(u::us).length->a0.tmps.getD t undef=(u::us).getD t undef:=fun t ht=>by simp only[a0];rw[a3d,a4a (by simpa using ht)];simp[a0n]
 have hrel0:Rel (Imm F p0 M0 w) w W.o x S [u]:=Rel.keep (fun b hb=>⟨himm b hb,rfl⟩) _ _ _ _ (fun _ _=>rfl) hr
 have hp0:Hp F p0 M0 w:=⟨fun k ob hk=>by have:=hlive k (bo hk);subst this;rw[hg0]at hk;cases hk;exact hrel0,fun k k' b hne hk hk'=>absurd ((hlive k hk).trans (hlive k' hk').symm) hne,
  fun k b hk hs=>⟨(hSlt b hs).1,.inl ⟨by rw[hlive k hk,hkk];exact a0f _,hs⟩⟩,fun b hb=>hb.elim,rfl,⟨rfl,a0f _⟩,rfl,a0f _,fun b _ _=>rfl⟩
 have hst:St F p0 (aa4 0 (auk W.o kk::xj B (aqy (toL fn.params)) W.as y)) M0 a0 w:=by
  refine⟨rfl,hsz,fun t v ht=>?_,fun b hb=>hb.elim,fun b hb=>hb,fun t=>?_,hp0⟩
  ·simp only[F,xo]at ht
   cases hm:vn t [0]with
   |true=>rw[hm]at ht;simpa using ht
   |false=>rw[hm]at ht;cases ht
  ·rw[ahv];simp only[a09,a01,a3r]
   cases t with
   |zero=>
    rw[hget 0 (by simp)];simp only[a1s,a0z,a3v]
    have key:∀(o:O) (z:o.strip.den),al9 o=true->go M0 kk=some ⟨o,z⟩->Rel (Imm F p0 M0 w) w o z S [u]->ah p0.β M0 (Imm F p0 M0 w) w (auk o kk) u:=fun o z ho hgo hrl=>by
     cases o with
     |pt o1=>simp only[auk,ah,aa];refine⟨u,rfl,?_⟩;simp only[Rel]at hrl;obtain⟨bb,us1,ty',S1,r1,_⟩:=hrl;simp only[a0i,a0b]at r1;exact⟨_,cellsOf w bb 0 o1.size,bb,0,hgo,by simp only[gok],by simp only[get];exact⟨_,rfl⟩,by simp only[cm],by simp only[p0,r1,res],r1⟩
     |sl e=>simp only[auk,ah,aa];exact⟨_,none,hgo,by simp only[gok],⟨_,by simp only[get];rfl⟩,by simp only[res,p0]⟩
     |fz t=>cases ho
     |p a b=>cases ho
     |mp e e'=>cases ho
     |op e=>cases ho
    exact key W.o x hro hg0 hrel0
   |succ t=>
    simp only[a2h]
    cases hx:(xj B (aqy (toL fn.params)) W.as y)[t]? with
    |none=>simp only[a3n,ah]
    |some v=>
     have ht:=(a1k.1 hx).1;have hu:us[t]? = some us[t]:=a0o (by omega);simp only[a0z];rw[hget (t+1) (by simp;omega)];have:(u::us).getD (t+1) undef=us[t]:=by simp[a0n,hu]
     rw[this];exact l4 t v _ hx hu
 refine a4f hf hb (a2p (fun e a' w' he=>?_) (yx hΦ hB hmix cut c F (hE.of fun b hb _=>⟨⟨hb,fun hs=>(hSlt b hs).2 hb⟩,rfl⟩) A _ _ _ hck (p7 c hnw (qb c)) he p0 _ w hst))
 have key:∀p env M,St F p env M a' w'->baz B (toL fn.results) W (Q x y) env M->(e=.normal\/e=.ret)->bodyPost P fn (fun e w'=>∃z r rs R S',Q x y z r/\e=.returned (nx rs)/\ExtS w w' S/\(∀b,R b->w.heap.size<=b/\b<w'.heap.size)/\(∀b,S' b->(S b\/w.heap.size<=b/\b<w'.heap.size)/\¬R b)/\
   Rel (fun b=>b<w'.heap.size/\(Ab b\/S b\/w.heap.size<=b)/\¬S' b/\¬R b) w' W.o z S' [u]/\
   ji (fun b=>b<w'.heap.size/\(Ab b\/S b\/w.heap.size<=b)/\¬S' b/\¬R b) w' W.rt r R rs) e a' w':=by
  intro p env M hs hr hee;unfold baz at hr;split at hr
  ·rename_i r e1 M1 hres;split at hr
   ·rename_i k hroot;split at hr
    ·rename_i ob hob;split at hr
     ·rename_i z hz;obtain⟨rs,p',R,k1,t,k4,k5,k6,k7⟩:=bbo (P:=P) (a:=a') hB (toL fn.results) W.rt p env M _ e1 M1 hs.hp hs.slots hres;rw[dh]at k1
      have hrun:(results fn a'.tmps).run P w'=.ok (nx rs) w':=by
       rw[adn,a4g];simp only[a1j,Sem.run_map,k1,a1r,a2m]
       match rs with
       |[]=>rfl
       |[u]=>rfl
       |u::u'::r=>simp[nx]
      have hu0:a'.tmps.getD 0 undef=u:=by have:=hs.fix 0 (a0.tmps.getD 0 undef) (by simp[F,xo,vn]);rw[this,hget 0 (by simp)];rfl
      have hs0:=t.s _ _ (hs.slots 0);rw[hu0]at hs0;obtain⟨w1,w2⟩:=ab7 hz;have hrk:=t.hp.objs k _ hob;have hbox:u=p'.β k:=ai5 t.hp hob hroot (e:=[]) rfl hs0;rw[←hbox]at hrk;obtain⟨S',s1,s2⟩:=zp ob.o W.o w1 ob.x _ (p'.σ k) [u] w2 hrk;have hlk:=bo hob;have hRl:∀b,R b->w.heap.size<=b/\b<w'.heap.size:=fun b hb=>⟨(t.hp.lim b (k5 b hb)).2.1,(t.hp.lim b (k5 b hb)).1⟩;have hSR:∀b,p'.σ k b->¬R b:=fun b hb hR=>(t.hp.lim b (k5 b hR)).2.2 k hlk hb;have hIm:∀b,Imm F p' M1 w' b->(b<w'.heap.size/\(Ab b\/S b\/w.heap.size<=b)/\¬S' b/\¬R b):=fun b hb=>⟨hb.1,hb.2.1,fun h=>hb.2.2.2 k hlk (s1 b h),fun h=>hb.2.2.1 (k5 b h)⟩
      have hpost:∃z r rs' R S',Q x y z r/\Ending.returned (nx rs)=.returned (nx rs')/\ExtS w w' S/\(∀b,R b->w.heap.size<=b/\b<w'.heap.size)/\(∀b,S' b->(S b\/w.heap.size<=b/\b<w'.heap.size)/\¬R b)/\
        Rel (fun b=>b<w'.heap.size/\(Ab b\/S b\/w.heap.size<=b)/\¬S' b/\¬R b) w' W.o z S' [u]/\
        ji (fun b=>b<w'.heap.size/\(Ab b\/S b\/w.heap.size<=b)/\¬S' b/\¬R b) w' W.rt r R rs':=by
       refine⟨z,r,rs,R,S',hr,rfl,⟨t.hp.os,t.hp.tape,t.hp.output,t.hp.size,fun b hb hn=>t.hp.old b hb hn⟩,hRl,fun b hb=>⟨?_,hSR b (s1 b hb)⟩,s2 _ hIm (fun b hb hnb=>?_),ji.keep hIm _ _ _ _ k7⟩
       ·have:=t.hp.own k b hlk (s1 b hb);rcases this.2 with⟨_,h1⟩|h1
        ·exact .inl h1
        ·exact .inr ⟨h1,this.1⟩
       ·have:=t.hp.own k b hlk hb;refine⟨this.1,?_,hnb,hSR b hb⟩;rcases this.2 with⟨_,h1⟩|h1
        ·exact .inr (.inl h1)
        ·exact .inr (.inr h1)
      rcases hee with rfl|rfl
      ·exact⟨hs.defers,_,hrun,hpost⟩
      ·exact⟨hs.defers,_,hrun,hpost⟩
     ·exact hr.elim
    ·exact hr.elim
   ·exact hr.elim
  ·exact hr.elim
 cases e with
 |normal=>obtain⟨p,env,M,h1,h2⟩:=he;exact key p env M h1 h2 (.inl rfl)
 |ret=>obtain⟨p,env,M,h1,h2⟩:=he;exact key p env M h1 h2 (.inr rfl)
 |exit id=>obtain⟨p,env,M,h1,h2⟩:=he;exact h2.elim
 |goto l=>obtain⟨p,env,M,h1,h2⟩:=he;exact h2.elim
 |panic ch=>exact he.elim
 |outgrown=>exact he.elim
theorem bh9 (hΦ : z7 P Φ) (hB : TabOk P B) (hmix : P.follows .mixedOrders = true) {f : FuncId} {fn : Func} {c : Code} (hf : P.funcs[f]? = some fn) (hb : fn.body = some c) (hn : (fn.name == "runtime.NumGoroutine") = false) (W : Wt) (A : Ann) (cut : Nat -> Nat)
  (hro:al9 W.o=true) (hga:false::W.ag=agL B fn) (hck:okC fn.ntmps cut c=true) (hlen:W.ag.length+1<=fn.ntmps) (hnw:noW [0] c=true)
  (h:∀x y,ab (W.o.strip.oks x)->ab (okL W.as y)->ab (W.pre x y)->bo0 B Φ cut fn c A W x y (fun z r=>z=W.new x y/\r=W.res x y)):bn P f (ax3 W):=by
 refine⟨tq hf hb hn,fun Ab w u x us y S hE hAlt hSlt hr hargs hpre cs=>?_⟩;obtain⟨e,w',fr,⟨z,r,rs,R,S',hq,h1⟩,h2⟩ :=wt_q hΦ hB hmix hf hb hn W (fun x y=>ab (W.pre x y)) (fun x y z r=>z=W.new x y/\r=W.res x y) A cut hro hga hck hlen hnw h Ab w u x us y S hE hAlt hSlt hr hargs hpre cs;obtain⟨rfl,rfl⟩:=hq;exact⟨e,w',fr,⟨rs,R,S',h1⟩,h2⟩
end
end Go.Bm
/- The du machine:a function that writes what lies in a box,handed an address within it. -/
namespace Go.Bm
open Go.RowKit
def waCt(W:Wa):Ct:=⟨[],[],fun _=>[],[],fun _=>(),false,some (.a W)⟩
def alV(k:Nat):(t:T)->t.den->V
 |.pt t,x=>bif aj2 t then .bx (.ad k [.de])else .d (.pt t) x
 |.p a b,x=>.p (alV k a x.1) (alV k b x.2)
 |.fn f t,x=>.fn f (alV k t x)
 |.u,_=>.u
 |t,x=>.d t x
def alA(k:Nat):(ts:List T)->dy ts->List V
 |[],_=>[]
 |t::ts,x=>alV k t x.1::alA k ts x.2
def ba5(rs:List ResultVar)(W:Wa)(K:W.o.strip.den->Prop)(env:Env)(M:Mem):Prop:=
 match rs with
 |[]=>(match au0 W.way (gt env 0)with
  |some k=>(match go M k with
   |some ob=>(match wkO ob W.o with
    |some z=>K z
    |none=>False)
   |none=>False)
  |none=>False)
 |_=>False
def endA(rs:List ResultVar)(W:Wa)(K:W.o.strip.den->Prop):Ex->Env->Mem->Prop
 |.ex _,_,_=>False
 |.go _,_,_=>False
 |.nm,env,M=>ba5 rs W K env M
 |.rt,env,M=>ba5 rs W K env M
def evFa(B:Tab)(Φ:FuncId->Option Ct)(cut:Nat->Nat)(fn:Func)(c:Code)(A:Ann)(W:Wa)(x:W.o.strip.den)(y:dy W.as)(K:W.o.strip.den->Prop):Prop:=ev B Φ cut c A (endA (toL fn.results) W K) (aa4 0 (.ad (cid 9000 0) W.way::alA (cid 9000 0) W.as y)) [(cid 9000 0,⟨W.o,x⟩)]
section
variable {F:Fr} {a:Act} {w:World} {P:Program} {B:Tab} {Φ:FuncId->Option Ct}
theorem bmz{t:T}(h:aj2 t=true):t=.any:=by
 unfold aj2 at h;split at h
 ·rfl
 ·cases h
theorem aqu{A Im:Nat->Prop}{β:Nat->Value}{M:Mem}{k:Nat}{u:Value}(hA:∀b,A b->Im b)(hbox:aa β M Im w (.ad k [.de]) [u]):(t:T)->(x:t.den)->(vs:List Value)->ai A w t x vs->AlR w u t vs->aa β M Im w (alV k t x) vs
 |.pt t,x,vs,r,h=>by
  simp only[alV]
  cases ha:aj2 t with
  |false=>simp only[a0g,aa];exact ai.keep (fun b hb=>⟨hA b hb,rfl⟩) _ _ _ r
  |true=>have:=bmz ha;subst this;simp only[a0c];simp only[ai]at r;simp only[AlR]at h;obtain⟨b,o,us,rfl,hb,_⟩:=r;obtain⟨b',o',e,hc⟩:=h ha;simp only[a0i,a5b,a0d,Addr.mk.injEq,a0b]at e;obtain⟨rfl,rfl⟩:=e;rw[aa];exact⟨b,o,[u],rfl,hA b hb,hc,hbox⟩
 |.p a b,x,vs,r,h=>by simp only[ai]at r;simp only[AlR]at h;simp only[alV,aa];obtain⟨va,vb,rfl,r1,r2⟩:=r;obtain⟨va',vb',e,hl,h1,h2⟩:=h;obtain⟨rfl,rfl⟩:=a4u e (by rw[ai.len _ _ _ r1,hl]);exact⟨_,_,rfl,aqu hA hbox a _ _ r1 h1,aqu hA hbox b _ _ r2 h2⟩
 |.fn f t,x,vs,r,h=>by
  simp only[ai]at r;simp only[AlR]at h;simp only[alV,aa];obtain⟨us,rfl,r1⟩:=r;obtain⟨us',e,h1⟩:=h;simp only[a0i,Value.func.injEq,a0b,a0e]at e;have e:us=us':=by simpa using e
  subst e;exact⟨us,rfl,aqu hA hbox t _ _ r1 h1⟩
 |.u,x,vs,r,h=>by simp only[ai]at r;simp only[alV,aa];exact r
 |.int _,x,vs,r,h=>by simp only[alV,aa];exact ai.keep (fun b hb=>⟨hA b hb,rfl⟩) _ _ _ r
 |.bool,x,vs,r,h=>by simp only[alV,aa];exact ai.keep (fun b hb=>⟨hA b hb,rfl⟩) _ _ _ r
 |.str,x,vs,r,h=>by simp only[alV,aa];exact ai.keep (fun b hb=>⟨hA b hb,rfl⟩) _ _ _ r
 |.any,x,vs,r,h=>by simp only[alV,aa];exact ai.keep (fun b hb=>⟨hA b hb,rfl⟩) _ _ _ r
 |.sl _,x,vs,r,h=>by simp only[alV,aa];exact ai.keep (fun b hb=>⟨hA b hb,rfl⟩) _ _ _ r
 |.ifc _ _,x,vs,r,h=>by simp only[alV,aa];exact ai.keep (fun b hb=>⟨hA b hb,rfl⟩) _ _ _ r
 |.mp _ _,x,vs,r,h=>by simp only[alV,aa];exact ai.keep (fun b hb=>⟨hA b hb,rfl⟩) _ _ _ r
 |.op _,x,vs,r,h=>by simp only[alV,aa];exact ai.keep (fun b hb=>⟨hA b hb,rfl⟩) _ _ _ r
 |.ns _,x,vs,r,h=>by simp only[alV,aa];exact ai.keep (fun b hb=>⟨hA b hb,rfl⟩) _ _ _ r
 |.er _,x,vs,r,h=>by simp only[alV,aa];exact ai.keep (fun b hb=>⟨hA b hb,rfl⟩) _ _ _ r
theorem bfq{A Im:Nat->Prop}{β:Nat->Value}{M:Mem}{k:Nat}{u0:Value}(hA:∀b,A b->Im b)(hbox:aa β M Im w (.ad k [.de]) [u0]):(ts:List T)->(x:dy ts)->(us:List Value)->oi A w (aaa ts) ts x us->AlL w u0 ts us->
  us.length=ts.length/\(alA k ts x).length=ts.length/\ab (okL ts x)/\∀(i:Nat) (v:V) (u:Value),(alA k ts x)[i]? = some v->us[i]? = some u->ah β M Im w v u
 |[],x,us,h,_=>by simp only[aaa,oi]at h;subst h;exact⟨rfl,rfl,trivial,fun i v u hv=>by simp[alA]at hv⟩
 |t::ts,x,us,h,hl=>by
  simp only[aaa,oi]at h;obtain⟨u,us',vs,rfl,_,h2,h3,h4⟩:=h;have:=h2 trivial;subst this;simp only[AlL]at hl;obtain⟨i1,i2,i3,i4⟩:=bfq (β:=β) (M:=M) hA hbox ts x.2 us' h4 hl.2;refine⟨by simp[i1],by simp[alA,i2],by simp only[okL,sf];exact⟨lq _ _ (ai.ok _ _ _ h3),i3⟩,fun i v u' hv hu=>?_⟩
  cases i with
  |zero=>simp only[alA,a1s,a0d]at hv hu;subst hv;subst hu;exact a7 (aqu hA hbox t x.1 _ h3 hl.1)
  |succ i=>exact i4 i v u' (by simpa[alA]using hv) (by simpa using hu)
theorem aft:(π:bq)->(o:O)->lrP π=true->(vs us:List Value)->(ad pl:Pl)->res w π o vs ad=some (us,pl)->∀b n,ad=some (b,n)->∃m,pl=some (b,m)
 |[],o,_,vs,us,ad,pl,h,b,n,e=>by simp only[res,a0d,a0j]at h;obtain⟨_,rfl⟩:=h;exact⟨n,e⟩
 |.ix _::_,_,h,_,_,_,_,_,_,_,_=>by simp[lrP]at h
 |.de::_,_,h,_,_,_,_,_,_,_,_=>by simp[lrP]at h
 |.l::π,o,hl,vs,us,ad,pl,h,b,n,e=>by
  simp only[lrP]at hl
  cases o with
  |p a c=>simp only[res]at h;exact aft π a hl _ _ _ _ h b n e
  |fz t=>
   cases t with
   |p a c=>simp only[res]at h;exact aft π (.fz a) hl _ _ _ _ h b n e
   |_=>simp[res]at h
  |_=>simp[res]at h
 |.r::π,o,hl,vs,us,ad,pl,h,b,n,e=>by
  simp only[lrP]at hl
  cases o with
  |p a c=>simp only[res]at h;exact aft π c hl _ _ _ _ h b (n+a.size) (by rw[e];rfl)
  |fz t=>
   cases t with
   |p a c=>simp only[res]at h;exact aft π (.fz c) hl _ _ _ _ h b (n+a.size) (by rw[e];rfl)
   |_=>simp[res]at h
  |_=>simp[res]at h
theorem bgz{β:Nat->Value}{M:Mem}{k:Nat}{π:bq}{v:Value}{o:O}(hw:ag7 o π=true)(h:Adr β M w k π v){ob:Ob}(hg:go M k=some ob){Im:Nat->Prop}{S:Nat->Prop}(hr:Rel Im w ob.o ob.x S [β k]) :
  ∃b n,β k=.pointer (some ⟨b,0,none⟩)/\v=.pointer (some ⟨b,n,none⟩):=by
 obtain⟨ob',us,b,off,k1,k2,k3,k4,k5,k6⟩:=h;rw[hg]at k1;cases k1
 match π,hw with
 |.de::π,hw=>
  have hl:lrP π=true:=by
   cases o with
   |pt o1=>exact hw
   |_=>simp[ag7]at hw
  obtain⟨oo,xx⟩:=ob
  cases oo with
  |pt o1=>simp only[Rel]at hr;obtain⟨bb,us1,ty',S1,r1,_⟩:=hr;simp only[a0i,a0b]at r1;rw[r1]at k5;simp only[res]at k5;obtain⟨m,hm⟩:=aft π o1 hl _ _ _ _ k5 bb 0 rfl;simp only[a0d,a0j]at hm;obtain⟨rfl,rfl⟩:=hm;exact⟨b,off,r1,k6⟩
  |fz t=>cases t <;> simp[res]at k5
  |_=>simp[res]at k5
theorem bua (hΦ : z7 P Φ) (hB : TabOk P B) (hmix : P.follows .mixedOrders = true) {f : FuncId} {fn : Func} {c : Code} (hf : P.funcs[f]? = some fn) (hb : fn.body = some c) (hn : (fn.name == "runtime.NumGoroutine") = false) (W : Wa) (A : Ann) (cut : Nat -> Nat)
  (hwy:ag7 W.o W.way=true) (hck:okC fn.ntmps cut c=true) (hlen:W.as.length+1<=fn.ntmps) (hnw:noW [0] c=true)
  (h:∀x y,ab (W.o.strip.oks x)->ab (okL W.as y)->ab (W.pre x y)->evFa B Φ cut fn c A W x y (fun z=>z=W.new x y)):bn P f (waCt W):=by
 refine⟨tq hf hb hn,?_⟩;show bmq P f W;intro Ab w u v x us y S hE hAlt hSlt hr hadr hargs hal hpre;let a0:Act:={ tmps:=(v::us).toArray++Array.replicate (fn.ntmps-(v::us).toArray.size) undef,defers:=[] }
 have hoks:ab (W.o.strip.oks x):=by have h1:=Rel.frz (Im':=fun _=>True) (fun _ _=>trivial) W.o x S [u] (fun _ _=>trivial) hr;have h2:=lq _ _ (ai.ok _ _ _ h1);exact h2
 let F:Fr:=⟨w,w,Ab,S,fun _=>False,fn.ntmps,xo (fun _=>none) [0] a0⟩
 let p0:Ow:=⟨fun _=>u,fun _=>S,fun _=>False⟩
 have hkk:gid=cid 9000 0:=by decide
 replace h:=fun h1 h2=>h x y h1 h2 hpre;unfold evFa at h;generalize cid 9000 0=kk at hkk h;generalize hM0:([(kk,⟨W.o,x⟩)]:Mem)=M0;have hg0:go M0 kk=some ⟨W.o,x⟩:=by rw[←hM0,c8,d0 rfl]
 have hlive:∀k,bt M0 k->k=kk:=fun k hk=>by
  unfold bt at hk;rw[←hM0,c8]at hk;split at hk
  ·rename_i e;exact e.symm
  ·simp[go]at hk
 have himm:∀b,Ab b->Imm F p0 M0 w b:=fun b hb=>⟨hAlt b hb,.inl hb,fun h=>h,fun k hk hs=>(hSlt b hs).2 hb⟩;have hrel0:Rel (Imm F p0 M0 w) w W.o x S [u]:=Rel.keep (fun b hb=>⟨himm b hb,rfl⟩) _ _ _ _ (fun _ _=>rfl) hr;have hadr0:Adr p0.β M0 w kk W.way v:=by obtain⟨o0,us0,b0,off0,k1,k2,k3,k4,k5,k6⟩:=hadr;rw[c8,d0 rfl]at k1;cases k1;exact⟨_,us0,b0,off0,hg0,k2,k3,k4,k5,k6⟩
 have hbox:aa p0.β M0 (Imm F p0 M0 w) w (.ad kk [.de]) [u]:=by
  have key:∀(o:O) (z:o.strip.den),ag7 o W.way=true->go M0 kk=some ⟨o,z⟩->Rel (Imm F p0 M0 w) w o z S [u]->aa p0.β M0 (Imm F p0 M0 w) w (.ad kk [.de]) [u]:=fun o z ho hgo hrl=>by
   cases o with
   |pt o1=>simp only[aa];refine⟨u,rfl,?_⟩;simp only[Rel]at hrl;obtain⟨bb,us1,ty',S1,r1,_⟩:=hrl;simp only[a0i,a0b]at r1;exact⟨_,cellsOf w bb 0 o1.size,bb,0,hgo,by simp only[gok],by simp only[get];exact⟨_,rfl⟩,by simp only[cm],by simp only[p0,r1,res],r1⟩
   |_=>exfalso;revert ho;cases W.way with
    |nil=>simp[ag7]
    |cons s π=>cases s <;> simp[ag7]
  exact key W.o x hwy hg0 hrel0
 obtain⟨l1,l2,l3,l4⟩:=bfq (β:=p0.β) (M:=M0) himm hbox W.as y us hargs hal;have he:=h hoks l3;rw[hM0]at he;have hsz:a0.tmps.size=fn.ntmps:=by simp[a0];omega
 have hget:∀t,t<(v::us).length->a0.tmps.getD t undef=(v::us).getD t undef:=fun t ht=>by simp only[a0];rw[a3d,a4a (by simpa using ht)];simp[a0n]
 have hp0:Hp F p0 M0 w:=⟨fun k ob hk=>by have:=hlive k (bo hk);subst this;rw[hg0]at hk;cases hk;exact hrel0,fun k k' b hne hk hk'=>absurd ((hlive k hk).trans (hlive k' hk').symm) hne,
  fun k b hk hs=>⟨(hSlt b hs).1,.inl ⟨by rw[hlive k hk,hkk];exact a0f _,hs⟩⟩,fun b hb=>hb.elim,rfl,⟨rfl,a0f _⟩,rfl,a0f _,fun b _ _=>rfl⟩
 have hst:St F p0 (aa4 0 (.ad kk W.way::alA kk W.as y)) M0 a0 w:=by
  refine⟨rfl,hsz,fun t v ht=>?_,fun b hb=>hb.elim,fun b hb=>hb,fun t=>?_,hp0⟩
  ·simp only[F,xo]at ht
   cases hm:vn t [0]with
   |true=>rw[hm]at ht;simpa using ht
   |false=>rw[hm]at ht;cases ht
  ·rw[ahv];simp only[a09,a01,a3r]
   cases t with
   |zero=>rw[hget 0 (by simp)];simp only[a1s,a0z,a3v,ah,aa];exact⟨v,rfl,hadr0⟩
   |succ t=>
    simp only[a2h]
    cases hx:(alA kk W.as y)[t]? with
    |none=>simp only[a3n,ah]
    |some z=>
     have ht:=(a1k.1 hx).1;have hu:us[t]? = some us[t]:=a0o (by omega);simp only[a0z];rw[hget (t+1) (by simp;omega)];have:(v::us).getD (t+1) undef=us[t]:=by simp[a0n,hu]
     rw[this];exact l4 t z _ hx hu
 obtain⟨bu,nu,hu1,hv1⟩:=bgz hwy hadr0 hg0 hrel0;refine a4f hf hb (a2p (fun e a' w' he=>?_) (yx hΦ hB hmix cut c F (hE.of fun b hb _=>⟨⟨hb,fun hs=>(hSlt b hs).2 hb⟩,rfl⟩) A _ _ _ hck (p7 c hnw (qb c)) he p0 _ w hst))
 have key:∀p env M,St F p env M a' w'->ba5 (toL fn.results) W (fun z=>z=W.new x y) env M->(e=.normal\/e=.ret)->bodyPost P fn (fun e w'=>∃S',e=.returned (nx [])/\ExtS w w' S/\(∀b,S' b->S b\/w.heap.size<=b/\b<w'.heap.size)/\
   Rel (fun b=>b<w'.heap.size/\(Ab b\/S b\/w.heap.size<=b)/\¬S' b) w' W.o (W.new x y) S' [u]) e a' w':=by
  intro p env M hs hr hee;unfold ba5 at hr;split at hr
  ·rename_i hres;split at hr
   ·rename_i k hroot;split at hr
    ·rename_i ob hob;split at hr
     ·rename_i z hz;subst hr;have hrun:(results fn a'.tmps).run P w'=.ok (nx []) w':=by rw[adn,a4g];rw[dh]at hres;rw[hres];simp[nx]
      have hv0:a'.tmps.getD 0 undef=v:=by have:=hs.fix 0 (a0.tmps.getD 0 undef) (by simp[F,xo,vn]);rw[this,hget 0 (by simp)];rfl
      have hs0:=hs.slots 0;rw[hv0,bg0 hroot]at hs0;simp only[ah,aa]at hs0;obtain⟨v',e1,hadr'⟩:=hs0;simp only[a0i,a0b]at e1;subst e1;obtain⟨w1,w2⟩:=ab7 hz;have hrk:=hs.hp.objs k _ hob;obtain⟨bu',nu',hu2,hv2⟩:=bgz hwy hadr' hob hrk;rw[hv1]at hv2;simp only[a5b,a0d,Addr.mk.injEq,a0b]at hv2;have hbx:u=p.β k:=by have:p0.β kk=u:=rfl;rw[←this,hu1,hu2,hv2.1]
      rw[←hbx]at hrk;obtain⟨S',s1,s2⟩:=zp ob.o W.o w1 ob.x _ (p.σ k) [u] w2 hrk;have hlk:=bo hob;have hIm:∀b,Imm F p M w' b->(b<w'.heap.size/\(Ab b\/S b\/w.heap.size<=b)/\¬S' b):=fun b hb=>⟨hb.1,hb.2.1,fun h=>hb.2.2.2 k hlk (s1 b h)⟩
      have hpost:∃S',Ending.returned (nx [])=.returned (nx [])/\ExtS w w' S/\(∀b,S' b->S b\/w.heap.size<=b/\b<w'.heap.size)/\
        Rel (fun b=>b<w'.heap.size/\(Ab b\/S b\/w.heap.size<=b)/\¬S' b) w' W.o (W.new x y) S' [u]:=by
       refine⟨S',rfl,⟨hs.hp.os,hs.hp.tape,hs.hp.output,hs.hp.size,fun b hb hn=>hs.hp.old b hb hn⟩,fun b hb=>?_,s2 _ hIm (fun b hb hnb=>?_)⟩
       ·have:=hs.hp.own k b hlk (s1 b hb);rcases this.2 with⟨_,h1⟩|h1
        ·exact .inl h1
        ·exact .inr ⟨h1,this.1⟩
       ·have:=hs.hp.own k b hlk hb;refine⟨this.1,?_,hnb⟩;rcases this.2 with⟨_,h1⟩|h1
        ·exact .inr (.inl h1)
        ·exact .inr (.inr h1)
      rcases hee with rfl|rfl
      ·exact⟨hs.defers,_,hrun,hpost⟩
      ·exact⟨hs.defers,_,hrun,hpost⟩
     ·exact hr.elim
    ·exact hr.elim
   ·exact hr.elim
  ·exact hr.elim
 cases e with
 |normal=>obtain⟨p,env,M,h1,h2⟩:=he;exact key p env M h1 h2 (.inl rfl)
 |ret=>obtain⟨p,env,M,h1,h2⟩:=he;exact key p env M h1 h2 (.inr rfl)
 |exit id=>obtain⟨p,env,M,h1,h2⟩:=he;exact h2.elim
 |goto l=>obtain⟨p,env,M,h1,h2⟩:=he;exact h2.elim
 |panic ch=>exact he.elim
 |outgrown=>exact he.elim
end
end Go.Bm
/- The du machine:a function that writes what lies in a box that closures among its arguments hold. -/
namespace Go.Bm
open Go.RowKit
def bns(W:Wc):Ct:=⟨[],[],fun _=>[],[],fun _=>(),false,some (.c W)⟩
def anV(k:Nat):(t:T)->t.den->V
 |.any,_=>.ad k [.de]
 |.p a b,x=>.p (anV k a x.1) (anV k b x.2)
 |.fn f t,x=>.fn f (anV k t x)
 |t,x=>kg t x
def anA(k:Nat):List Bool->(ts:List T)->dy ts->List V
 |true::gs,t::ts,x=>.ag (kg t x.1)::anA k gs ts x.2
 |false::gs,t::ts,x=>anV k t x.1::anA k gs ts x.2
 |_,_,_=>[]
def d5(M:Mem):T->V->Option Nat
 |.any,.ad k π=>bif ab2 π then some k else none
 |.p a b,.p v w=>bif jx M v a.size then (match d5 M a v with|some k=>some k|none=>d5 M b w)else none
 |.fn _ t,.fn _ v=>d5 M t v
 |_,_=>none
def bav(rs:List ResultVar)(W:Wc)(K:W.o.strip.den->Prop)(env:Env)(M:Mem):Prop:=
 match rs with
 |[]=>(match d5 M (yj .u W.as W.i) (gt env W.i)with
  |some k=>(match go M k with
   |some ob=>(match wkO ob W.o with
    |some z=>K z
    |none=>False)
   |none=>False)
  |none=>False)
 |_=>False
def endC(rs:List ResultVar)(W:Wc)(K:W.o.strip.den->Prop):Ex->Env->Mem->Prop
 |.ex _,_,_=>False
 |.go _,_,_=>False
 |.nm,env,M=>bav rs W K env M
 |.rt,env,M=>bav rs W K env M
def evFc(B:Tab)(Φ:FuncId->Option Ct)(cut:Nat->Nat)(fn:Func)(c:Code)(A:Ann)(W:Wc)(x:W.o.strip.den)(y:dy W.as)(K:W.o.strip.den->Prop):Prop:=ev B Φ cut c A (endC (toL fn.results) W K) (aa4 0 (anA (cid 9000 0) W.ag W.as y)) [(cid 9000 0,⟨W.o,x⟩)]
def ptO:O->Bool
 |.pt _=>true
 |_=>false
section
variable {F:Fr} {p:Ow} {M:Mem} {a:Act} {w:World} {P:Program} {B:Tab} {Φ:FuncId->Option Ct}
theorem AnF.rel{A:Nat->Prop}{u:Value}(hu:u.oneCell'=true):(t:T)->(x:t.den)->(vs:List Value)->AnF A w u t x vs->ai A w t x vs
 |.any,_,vs,h=>by simp only[AnF]at h;simp only[ai];exact⟨u,h,hu⟩
 |.p a b,x,vs,h=>by simp only[AnF]at h;obtain⟨va,vb,h1,h2,h3⟩:=h;simp only[ai];exact⟨va,vb,h1,AnF.rel hu a _ _ h2,AnF.rel hu b _ _ h3⟩
 |.fn f t,x,vs,h=>by simp only[AnF]at h;obtain⟨us,h1,h2⟩:=h;simp only[ai];exact⟨us,h1,AnF.rel hu t _ _ h2⟩
 |.int _,_,_,h=>by simpa only [AnF]using h
 |.bool,_,_,h=>by simpa only [AnF]using h
 |.str,_,_,h=>by simpa only [AnF]using h
 |.u,_,_,h=>by simpa only [AnF]using h
 |.sl _,_,_,h=>by simpa only [AnF]using h
 |.pt _,_,_,h=>by simpa only [AnF]using h
 |.ifc _ _,_,_,h=>by simpa only [AnF]using h
 |.mp _ _,_,_,h=>by simpa only [AnF]using h
 |.op _,_,_,h=>by simpa only [AnF]using h
 |.ns _,_,_,h=>by simpa only [AnF]using h
 |.er _,_,_,h=>by simpa only [AnF]using h
theorem aqw{A Im:Nat->Prop}{β:Nat->Value}{M:Mem}{k:Nat}{u:Value}(hA:∀b,A b->Im b)(hbox:aa β M Im w (.ad k [.de]) [u]):(t:T)->(x:t.den)->(vs:List Value)->AnF A w u t x vs->aa β M Im w (anV k t x) vs
 |.any,_,vs,h=>by simp only[AnF]at h;subst h;exact hbox
 |.p a b,x,vs,h=>by simp only[AnF]at h;obtain⟨va,vb,h1,h2,h3⟩:=h;simp only[anV,aa];exact⟨va,vb,h1,aqw hA hbox a _ _ h2,aqw hA hbox b _ _ h3⟩
 |.fn f t,x,vs,h=>by simp only[AnF]at h;obtain⟨us,h1,h2⟩:=h;simp only[anV,aa];exact⟨us,h1,aqw hA hbox t _ _ h2⟩
 |.int k,x,vs,h=>by simp only[AnF]at h;exact fw (.int k) x vs (ai.keep (fun b hb=>⟨hA b hb,rfl⟩) _ _ _ h)
 |.bool,x,vs,h=>by simp only[AnF]at h;exact fw .bool x vs (ai.keep (fun b hb=>⟨hA b hb,rfl⟩) _ _ _ h)
 |.str,x,vs,h=>by simp only[AnF]at h;exact fw .str x vs (ai.keep (fun b hb=>⟨hA b hb,rfl⟩) _ _ _ h)
 |.u,x,vs,h=>by simp only[AnF]at h;exact fw .u x vs (ai.keep (fun b hb=>⟨hA b hb,rfl⟩) _ _ _ h)
 |.sl t,x,vs,h=>by simp only[AnF]at h;exact fw (.sl t) x vs (ai.keep (fun b hb=>⟨hA b hb,rfl⟩) _ _ _ h)
 |.pt t,x,vs,h=>by simp only[AnF]at h;exact fw (.pt t) x vs (ai.keep (fun b hb=>⟨hA b hb,rfl⟩) _ _ _ h)
 |.ifc f t,x,vs,h=>by simp only[AnF]at h;exact fw (.ifc f t) x vs (ai.keep (fun b hb=>⟨hA b hb,rfl⟩) _ _ _ h)
 |.mp k t,x,vs,h=>by simp only[AnF]at h;exact fw (.mp k t) x vs (ai.keep (fun b hb=>⟨hA b hb,rfl⟩) _ _ _ h)
 |.op t,x,vs,h=>by simp only[AnF]at h;exact fw (.op t) x vs (ai.keep (fun b hb=>⟨hA b hb,rfl⟩) _ _ _ h)
 |.ns t,x,vs,h=>by simp only[AnF]at h;exact fw (.ns t) x vs (ai.keep (fun b hb=>⟨hA b hb,rfl⟩) _ _ _ h)
 |.er i,x,vs,h=>by simp only[AnF]at h;exact fw (.er i) x vs (ai.keep (fun b hb=>⟨hA b hb,rfl⟩) _ _ _ h)
theorem axa{A Im:Nat->Prop}{β:Nat->Value}{M:Mem}{k:Nat}{u0:Value}(hu0:u0.oneCell'=true)(hA:∀b,A b->Im b)(hbox:aa β M Im w (.ad k [.de]) [u0]):(gs:List Bool)->(ts:List T)->(x:dy ts)->(us:List Value)->yo A w u0 gs ts x us->
  us.length=gs.length/\(anA k gs ts x).length=gs.length/\ab (okL ts x)/\∀(i:Nat) (v:V) (u:Value),(anA k gs ts x)[i]? = some v->us[i]? = some u->ah β M Im w v u
 |[],[],x,us,h=>by simp only[yo]at h;subst h;exact⟨rfl,rfl,trivial,fun i v u hv=>by simp[anA]at hv⟩
 |[],_::_,x,us,h=>by simp[yo]at h
 |g::_,[],x,us,h=>by cases g <;> simp[yo]at h
 |true::gs,t::ts,x,us,h=>by
  simp only[yo]at h;obtain⟨us',vs,rfl,h3,h4⟩:=h;obtain⟨i1,i2,i3,i4⟩:=axa (β:=β) (M:=M) hu0 hA hbox gs ts x.2 us' h4;refine⟨by simp[i1],by simp[anA,i2],by simp only[okL,sf];exact⟨lq _ _ (ai.ok _ _ _ h3),i3⟩,fun i v u' hv hu=>?_⟩
  cases i with
  |zero=>simp only[anA,a1s,a0d]at hv hu;subst hv;subst hu;simp only[ah];exact⟨vs,rfl,fw t x.1 vs (ai.keep (fun b hb=>⟨hA b hb,rfl⟩) _ _ _ h3)⟩
  |succ i=>exact i4 i v u' (by simpa[anA]using hv) (by simpa using hu)
 |false::gs,t::ts,x,us,h=>by
  simp only[yo]at h;obtain⟨u,us',rfl,h3,h4⟩:=h;obtain⟨i1,i2,i3,i4⟩:=axa (β:=β) (M:=M) hu0 hA hbox gs ts x.2 us' h4;refine⟨by simp[i1],by simp[anA,i2],by simp only[okL,sf];exact⟨lq _ _ (ai.ok _ _ _ (AnF.rel hu0 t _ _ h3)),i3⟩,fun i v u' hv hu=>?_⟩
  cases i with
  |zero=>simp only[anA,a1s,a0d]at hv hu;subst hv;subst hu;exact a7 (aqw hA hbox t x.1 _ h3)
  |succ i=>exact i4 i v u' (by simpa[anA]using hv) (by simpa using hu)
theorem ani(hp:Hp F p M w){A:Nat->Prop}{w0:World}{u:Value}(hu:u.oneCell'=true){k:Nat}{ob:Ob}(hg:go M k=some ob):(t:T)->(v:V)->(x:t.den)->(vs:List Value)->aa p.β M (Imm F p M w) w v vs->AnF A w0 u t x vs->d5 M t v=some k->u=p.β k
 |.any,.ad j π,x,vs,r,h,hb=>by
  simp only[d5]at hb
  cases hd:ab2 π with
  |false=>rw[hd]at hb;cases hb
  |true=>rw[hd]at hb;simp only[a0c,a0d]at hb;subst hb;have:=ahq hd;subst this;simp only[AnF]at h;subst h;exact ai5 hp hg (v0:=.ad j [.de]) (by simp[afg,ab2]) (e:=[]) rfl (u:=u) (by simp only[V.evs,ah];exact r)
 |.p a b,.p v v',x,vs,r,h,hb=>by
  simp only[d5]at hb
  cases hs:jx M v a.size with
  |false=>rw[hs]at hb;cases hb
  |true=>
   rw[hs]at hb;simp only[a0c]at hb;simp only[aa]at r;obtain⟨va,vb,rfl,r1,r2⟩:=r;simp only[AnF]at h;obtain⟨va',vb',e,h1,h2⟩:=h;obtain⟨rfl,rfl⟩:=a4u e (by rw[u4 hp v va _ r1 (ld hs),ai.len _ _ _ (AnF.rel hu a _ _ h1)]);split at hb
   ·rename_i k' hk;cases hb;exact ani hp hu hg a v _ _ r1 h1 hk
   ·exact ani hp hu hg b v' _ _ r2 h2 hb
 |.fn f t,.fn f' v,x,vs,r,h,hb=>by
  simp only[d5]at hb;simp only[aa]at r;simp only[AnF]at h;obtain⟨us,rfl,r1⟩:=r;obtain⟨us',e,h1⟩:=h;simp only[a0i,Value.func.injEq,Fn.func.injEq,a0b,a0e]at e;have e:us=us':=by simpa using e.2
  subst e;exact ani hp hu hg t v _ _ r1 h1 hb
 |.any,.p _ _,_,_,_,_,hb=>by simp[d5]at hb
 |.any,.ref _ _,_,_,_,_,hb=>by simp[d5]at hb
 |.any,.d _ _,_,_,_,_,hb=>by simp[d5]at hb
 |.any,.nl,_,_,_,_,hb=>by simp[d5]at hb
 |.any,.np,_,_,_,_,hb=>by simp[d5]at hb
 |.any,.u,_,_,_,_,hb=>by simp[d5]at hb
 |.any,.any,_,_,_,_,hb=>by simp[d5]at hb
 |.any,.ag _,_,_,_,_,hb=>by simp[d5]at hb
 |.any,.tup _,_,_,_,_,hb=>by simp[d5]at hb
 |.any,.fn _ _,_,_,_,_,hb=>by simp[d5]at hb
 |.any,.bx _,_,_,_,_,hb=>by simp[d5]at hb
 |.any,.ifc _ _,_,_,_,_,hb=>by simp[d5]at hb
 |.any,.gd _ _ _ _,_,_,_,_,hb=>by simp[d5]at hb
 |.p _ _,.ad _ _,_,_,_,_,hb=>by simp[d5]at hb
 |.p _ _,.ref _ _,_,_,_,_,hb=>by simp[d5]at hb
 |.p _ _,.d _ _,_,_,_,_,hb=>by simp[d5]at hb
 |.p _ _,.nl,_,_,_,_,hb=>by simp[d5]at hb
 |.p _ _,.np,_,_,_,_,hb=>by simp[d5]at hb
 |.p _ _,.u,_,_,_,_,hb=>by simp[d5]at hb
 |.p _ _,.any,_,_,_,_,hb=>by simp[d5]at hb
 |.p _ _,.ag _,_,_,_,_,hb=>by simp[d5]at hb
 |.p _ _,.tup _,_,_,_,_,hb=>by simp[d5]at hb
 |.p _ _,.fn _ _,_,_,_,_,hb=>by simp[d5]at hb
 |.p _ _,.bx _,_,_,_,_,hb=>by simp[d5]at hb
 |.p _ _,.ifc _ _,_,_,_,_,hb=>by simp[d5]at hb
 |.p _ _,.gd _ _ _ _,_,_,_,_,hb=>by simp[d5]at hb
 |.fn _ _,.ad _ _,_,_,_,_,hb=>by simp[d5]at hb
 |.fn _ _,.ref _ _,_,_,_,_,hb=>by simp[d5]at hb
 |.fn _ _,.d _ _,_,_,_,_,hb=>by simp[d5]at hb
 |.fn _ _,.nl,_,_,_,_,hb=>by simp[d5]at hb
 |.fn _ _,.np,_,_,_,_,hb=>by simp[d5]at hb
 |.fn _ _,.u,_,_,_,_,hb=>by simp[d5]at hb
 |.fn _ _,.any,_,_,_,_,hb=>by simp[d5]at hb
 |.fn _ _,.ag _,_,_,_,_,hb=>by simp[d5]at hb
 |.fn _ _,.tup _,_,_,_,_,hb=>by simp[d5]at hb
 |.fn _ _,.p _ _,_,_,_,_,hb=>by simp[d5]at hb
 |.fn _ _,.bx _,_,_,_,_,hb=>by simp[d5]at hb
 |.fn _ _,.ifc _ _,_,_,_,_,hb=>by simp[d5]at hb
 |.fn _ _,.gd _ _ _ _,_,_,_,_,hb=>by simp[d5]at hb
 |.int _,_,_,_,_,_,hb=>by simp[d5]at hb
 |.bool,_,_,_,_,_,hb=>by simp[d5]at hb
 |.str,_,_,_,_,_,hb=>by simp[d5]at hb
 |.u,_,_,_,_,_,hb=>by simp[d5]at hb
 |.sl _,_,_,_,_,_,hb=>by simp[d5]at hb
 |.pt _,_,_,_,_,_,hb=>by simp[d5]at hb
 |.ifc _ _,_,_,_,_,_,hb=>by simp[d5]at hb
 |.mp _ _,_,_,_,_,_,hb=>by simp[d5]at hb
 |.op _,_,_,_,_,_,hb=>by simp[d5]at hb
 |.ns _,_,_,_,_,_,hb=>by simp[d5]at hb
 |.er _,_,_,_,_,_,hb=>by simp[d5]at hb
theorem ast{A:Nat->Prop}{u0:Value}:(gs:List Bool)->(ts:List T)->(x:dy ts)->(us:List Value)->(i:Nat)->yo A w u0 gs ts x us->yj true gs i=false->∃(z:(yj T.u ts i).den) (u:Value),us[i]? = some u/\AnF A w u0 (yj T.u ts i) z [u]
 |[],_,_,_,_,_,h=>by simp[yj]at h
 |g::_,[],x,us,i,h,_=>by cases g <;> simp[yo]at h
 |true::gs,t::ts,x,us,0,h,hn=>by simp[yj]at hn
 |false::gs,t::ts,x,us,0,h,hn=>by simp only[yo]at h;obtain⟨u,us',rfl,h3,h4⟩:=h;exact⟨x.1,u,rfl,h3⟩
 |true::gs,t::ts,x,us,i+1,h,hn=>by simp only[yo]at h;obtain⟨us',vs,rfl,h3,h4⟩:=h;obtain⟨z,u,e1,e2⟩:=ast gs ts x.2 us' i h4 (by simpa[yj]using hn);exact⟨z,u,by simpa using e1,e2⟩
 |false::gs,t::ts,x,us,i+1,h,hn=>by simp only[yo]at h;obtain⟨u,us',rfl,h3,h4⟩:=h;obtain⟨z,u,e1,e2⟩:=ast gs ts x.2 us' i h4 (by simpa[yj]using hn);exact⟨z,u,by simpa using e1,e2⟩
theorem bpg (hΦ : z7 P Φ) (hB : TabOk P B) (hmix : P.follows .mixedOrders = true) {f : FuncId} {fn : Func} {c : Code} (hf : P.funcs[f]? = some fn) (hb : fn.body = some c) (hn : (fn.name == "runtime.NumGoroutine") = false) (W : Wc) (A : Ann) (cut : Nat -> Nat)
  (hfl:W.o.flat=true) (hpt:ptO W.o=true) (hga:W.ag=agL B fn) (hgi:yj true W.ag W.i=false) (hck:okC fn.ntmps cut c=true) (hlen:W.ag.length<=fn.ntmps) (hnw:noW [W.i] c=true)
  (h:∀x y,ab (W.o.strip.oks x)->ab (okL W.as y)->ab (W.pre x y)->evFc B Φ cut fn c A W x y (fun z=>z=W.new x y)):bn P f (bns W):=by
 refine⟨tq hf hb hn,?_⟩;show bm6 P f W;refine⟨hfl,?_⟩;intro Ab w u x us y S hE hAlt hSlt hr hargs hpre;let a0:Act:={ tmps:=us.toArray++Array.replicate (fn.ntmps-us.toArray.size) undef,defers:=[] }
 have hoks:ab (W.o.strip.oks x):=by have h1:=Rel.frz (Im':=fun _=>True) (fun _ _=>trivial) W.o x S [u] (fun _ _=>trivial) hr;have h2:=lq _ _ (ai.ok _ _ _ h1);exact h2
 let F:Fr:=⟨w,w,Ab,S,fun _=>False,fn.ntmps,xo (fun _=>none) [W.i] a0⟩
 let p0:Ow:=⟨fun _=>u,fun _=>S,fun _=>False⟩
 have hkk:gid=cid 9000 0:=by decide
 replace h:=fun h1 h2=>h x y h1 h2 hpre;unfold evFc at h;generalize cid 9000 0=kk at hkk h;generalize hM0:([(kk,⟨W.o,x⟩)]:Mem)=M0;have hg0:go M0 kk=some ⟨W.o,x⟩:=by rw[←hM0,c8,d0 rfl]
 have hlive:∀k,bt M0 k->k=kk:=fun k hk=>by
  unfold bt at hk;rw[←hM0,c8]at hk;split at hk
  ·rename_i e;exact e.symm
  ·simp[go]at hk
 have himm:∀b,Ab b->Imm F p0 M0 w b:=fun b hb=>⟨hAlt b hb,.inl hb,fun h=>h,fun k hk hs=>(hSlt b hs).2 hb⟩;have hrel0:Rel (Imm F p0 M0 w) w W.o x S [u]:=Rel.keep (fun b hb=>⟨himm b hb,rfl⟩) _ _ _ _ (fun _ _=>rfl) hr
 have hbox:aa p0.β M0 (Imm F p0 M0 w) w (.ad kk [.de]) [u]/\u.oneCell'=true:=by
  have key:∀(o:O) (z:o.strip.den),ptO o=true->go M0 kk=some ⟨o,z⟩->Rel (Imm F p0 M0 w) w o z S [u]->aa p0.β M0 (Imm F p0 M0 w) w (.ad kk [.de]) [u]/\u.oneCell'=true:=fun o z ho hgo hrl=>by
   cases o with
   |pt o1=>simp only[Rel]at hrl;obtain⟨bb,us1,ty',S1,r1,_⟩:=hrl;simp only[a0i,a0b]at r1;refine⟨?_,by rw[r1];rfl⟩;simp only[aa];refine⟨u,rfl,?_⟩;exact⟨_,cellsOf w bb 0 o1.size,bb,0,hgo,by simp only[gok],by simp only[get];exact⟨_,rfl⟩,by simp only[cm],by simp only[p0,r1,res],r1⟩
   |_=>cases ho
  exact key W.o x hpt hg0 hrel0
 obtain⟨hbox,hu1⟩:=hbox;obtain⟨l1,l2,l3,l4⟩:=axa (β:=p0.β) (M:=M0) hu1 himm hbox W.ag W.as y us hargs;have he:=h hoks l3;rw[hM0]at he;have hsz:a0.tmps.size=fn.ntmps:=by simp[a0];omega
 have hget:∀t,t<us.length->a0.tmps.getD t undef=us.getD t undef:=fun t ht=>by simp only[a0];rw[a3d,a4a (by simpa using ht)];simp[a0n]
 have hp0:Hp F p0 M0 w:=⟨fun k ob hk=>by have:=hlive k (bo hk);subst this;rw[hg0]at hk;cases hk;exact hrel0,fun k k' b hne hk hk'=>absurd ((hlive k hk).trans (hlive k' hk').symm) hne,
  fun k b hk hs=>⟨(hSlt b hs).1,.inl ⟨by rw[hlive k hk,hkk];exact a0f _,hs⟩⟩,fun b hb=>hb.elim,rfl,⟨rfl,a0f _⟩,rfl,a0f _,fun b _ _=>rfl⟩
 have hst:St F p0 (aa4 0 (anA kk W.ag W.as y)) M0 a0 w:=by
  refine⟨rfl,hsz,fun t v ht=>?_,fun b hb=>hb.elim,fun b hb=>hb,fun t=>?_,hp0⟩
  ·simp only[F,xo]at ht
   cases hm:vn t [W.i]with
   |true=>rw[hm]at ht;simpa using ht
   |false=>rw[hm]at ht;cases ht
  ·rw[ahv];simp only[a09,a01,a3r]
   cases hx:(anA kk W.ag W.as y)[t]? with
   |none=>simp only[a3n,ah]
   |some z=>
    have ht:=(a1k.1 hx).1;have hu:us[t]? = some us[t]:=a0o (by omega);simp only[a0z];rw[hget t (by omega)];have:us.getD t undef=us[t]:=by simp[a0n,hu]
    rw[this];exact l4 t z _ hx hu
 obtain⟨zi,ui,hui,hani⟩:=ast W.ag W.as y us W.i hargs hgi;refine a4f hf hb (a2p (fun e a' w' he=>?_) (yx hΦ hB hmix cut c F (hE.of fun b hb _=>⟨⟨hb,fun hs=>(hSlt b hs).2 hb⟩,rfl⟩) A _ _ _ hck (p7 c hnw (qb c)) he p0 _ w hst))
 have key:∀p env M,St F p env M a' w'->bav (toL fn.results) W (fun z=>z=W.new x y) env M->(e=.normal\/e=.ret)->bodyPost P fn (fun e w'=>∃S',e=.returned (nx [])/\ExtS w w' S/\(∀b,S' b->S b\/w.heap.size<=b/\b<w'.heap.size)/\
   Rel (fun b=>b<w'.heap.size/\(Ab b\/S b\/w.heap.size<=b)/\¬S' b) w' W.o (W.new x y) S' [u]) e a' w':=by
  intro p env M hs hr hee;unfold bav at hr;split at hr
  ·rename_i hres;split at hr
   ·rename_i k hroot;split at hr
    ·rename_i ob hob;split at hr
     ·rename_i z hz;subst hr;have hrun:(results fn a'.tmps).run P w'=.ok (nx []) w':=by rw[adn,a4g];rw[dh]at hres;rw[hres];simp[nx]
      have hil:=(a1k.1 hui).1;have hv0:a'.tmps.getD W.i undef=ui:=by have:=hs.fix W.i (a0.tmps.getD W.i undef) (by simp[F,xo,vn]);rw[this,hget W.i hil];simp[a0n,hui]
      have hs0:=hs.slots W.i;rw[hv0]at hs0
      have hbx:u=p.β k:=by
       refine ani hs.hp hu1 hob (yj .u W.as W.i) (gt env W.i) zi [ui] ?_ hani hroot;revert hroot hs0;generalize gt env W.i=V0;intro hroot hs0
       cases V0 with
       |any=>cases hT:yj T.u W.as W.i <;> rw[hT]at hroot <;> simp[d5]at hroot
       |ag _=>cases hT:yj T.u W.as W.i <;> rw[hT]at hroot <;> simp[d5]at hroot
       |tup _=>cases hT:yj T.u W.as W.i <;> rw[hT]at hroot <;> simp[d5]at hroot
       |gd _ _ _ _=>cases hT:yj T.u W.as W.i <;> rw[hT]at hroot <;> simp[d5]at hroot
       |_=>simpa only [ah]using hs0
      obtain⟨w1,w2⟩:=ab7 hz;have hrk:=hs.hp.objs k _ hob;rw[←hbx]at hrk;obtain⟨S',s1,s2⟩:=zp ob.o W.o w1 ob.x _ (p.σ k) [u] w2 hrk;have hlk:=bo hob;have hIm:∀b,Imm F p M w' b->(b<w'.heap.size/\(Ab b\/S b\/w.heap.size<=b)/\¬S' b):=fun b hb=>⟨hb.1,hb.2.1,fun h=>hb.2.2.2 k hlk (s1 b h)⟩
      have hpost:∃S',Ending.returned (nx [])=.returned (nx [])/\ExtS w w' S/\(∀b,S' b->S b\/w.heap.size<=b/\b<w'.heap.size)/\
        Rel (fun b=>b<w'.heap.size/\(Ab b\/S b\/w.heap.size<=b)/\¬S' b) w' W.o (W.new x y) S' [u]:=by
       refine⟨S',rfl,⟨hs.hp.os,hs.hp.tape,hs.hp.output,hs.hp.size,fun b hb hn=>hs.hp.old b hb hn⟩,fun b hb=>?_,s2 _ hIm (fun b hb hnb=>?_)⟩
       ·have:=hs.hp.own k b hlk (s1 b hb);rcases this.2 with⟨_,h1⟩|h1
        ·exact .inl h1
        ·exact .inr ⟨h1,this.1⟩
       ·have:=hs.hp.own k b hlk hb;refine⟨this.1,?_,hnb⟩;rcases this.2 with⟨_,h1⟩|h1
        ·exact .inr (.inl h1)
        ·exact .inr (.inr h1)
      rcases hee with rfl|rfl
      ·exact⟨hs.defers,_,hrun,hpost⟩
      ·exact⟨hs.defers,_,hrun,hpost⟩
     ·exact hr.elim
    ·exact hr.elim
   ·exact hr.elim
  ·exact hr.elim
 cases e with
 |normal=>obtain⟨p,env,M,h1,h2⟩:=he;exact key p env M h1 h2 (.inl rfl)
 |ret=>obtain⟨p,env,M,h1,h2⟩:=he;exact key p env M h1 h2 (.inr rfl)
 |exit id=>obtain⟨p,env,M,h1,h2⟩:=he;exact h2.elim
 |goto l=>obtain⟨p,env,M,h1,h2⟩:=he;exact h2.elim
 |panic ch=>exact he.elim
 |outgrown=>exact he.elim
end
end Go.Bm
