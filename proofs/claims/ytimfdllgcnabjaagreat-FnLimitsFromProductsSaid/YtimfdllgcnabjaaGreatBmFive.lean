/- The typed machine that the walks of this claim go by: its data, its operations and the proof that each is sound. No condition. -/
import Derived.Test.YtimfdllgcnabjaaGreatBmFour
import Derived.Scope
import Derived.OpenShut
import Derived.ChangeSlices
import Derived.SizedLaws
import Derived.Below
import Derived.ProofKit
import Derived.ShutString
import Derived.ChangeOld
set_option linter.unusedVariables false
set_option linter.unusedSimpArgs false
set_option linter.unusedSectionVars false
namespace Go.Bm
open Go.RowKit
abbrev zh:=@calls_of_wp
abbrev zj:=@Array.mapM_eq_mapM_toList
abbrev zk:=@Sem.run_map
abbrev C8:=@List.all_append
abbrev zm:=@List.all_cons
abbrev dB:=@Int.le_refl
abbrev C9:=@Nat.not_lt_zero
abbrev CA:=@List.nodup_nil
abbrev lG:=@List.nodup_cons
abbrev Me:Type:=(Int×Unit)×Unit->((Int×Unit)×Unit->Prop)->Prop
variable {B:Tab}{Ds ga:gj}{F:Fr}{H S α:Type}{Im Im' S':aT}{K:Env->Mem->Prop}{L:eQ}{M M' M'' M1:Mem}{P:cX}{Q:gi}{W w w' w'':aQ}{a a':Act}{args:ii}{b g held:bo}{base cut id j k:Nat}{body:Me}{c:jv}{ct:Ct}{e:bM}{env env':Env}{f:fL}{fn:Func}{i i0 n:Int}{l:bL}{o:bj}{ops ops':fK}{p p' p'':Ow}{ps:List MemPlace}{r:List (Nat×Ct)}{spare:Nat->Bool}{t:bF}{u:bw}{v:V}{vs:aM}{x y:Prop}{Φ:du}{β β':fD}{ρ:ju}{σ:aZ}{σ':jN}
theorem Tn{Im Im':aT}{w:aQ}(hI:∀b,Im b->Im' b):(rt:gH)->(x:bY rt)->(S:aT)->(us:aM)->(∀b,S b->Im' b)->cp Im w rt x S us->cp Im' w (fzL rt) (fzX rt x) (λ_=>False) us
 |[],_,_,_,_,h=>h
 |q::r,x,S,us,hS,h=>by obtain⟨u,us',vs,S1,S2,h1,h2,h3,h4,h5,_,h7,h8⟩:=h;refine⟨u,us',vs,λ_=>False,λ_=>False,h1,h2,h3,λ_ h=>h.elim,λ_ h=>h.elim,λ_ h=>h.elim,?_,Tn hI r x.2 S2 us' (λb hb=>hS b (h5 b hb)) h8⟩;simp only[Rel];exact Rel.frz hI q.2 x.1 S1 vs (λb hb=>hS b (h4 b hb)) h7
theorem afa(h:aN P f ct)(hm:ct.mu=none):aN P f (fzCt ct):=by obtain⟨h1,h2⟩:=h;rw[hm]at h2;refine⟨h1,λA w us x hE hA hr hp=>?_⟩;refine (h2 A w us x hE hA hr hp).mono λe w' he=>?_;obtain⟨rs,S,q1,q2,q3,q4⟩:=he;refine⟨rs,λ_=>False,q1,q2,λ_ h=>h.elim,Tn (λb hb=>⟨hb.1,hb.2.1.elim (λh=>.inl ⟨rfl,h.2⟩) .inr,λh=>h⟩) _ _ S rs (λb hb=>⟨(q3 b hb).2,.inr (q3 b hb).1,λh=>h⟩) q4⟩
theorem aad(hΦ:fR P Φ):fR P (vB Φ):=by
 intro f c hc;unfold vB at hc
 cases hf:Φ f with
 |none=>rw[hf]at hc;cases hc
 |some ct=>
  rw[hf]at hc;simp only at hc
  cases hm:ct.mu with
  |none=>rw[hm]at hc;simp only[aI]at hc;rw[←hc];exact afa (hΦ f ct hf) hm
  |some _=>rw[hm]at hc;simp only[aI]at hc;rw[←hc];exact hΦ f ct hf
theorem adc(hΦ:iv P F Φ)(hB:TabOk P B)(all:fK)(Q:gi)(K:Env->Mem->Prop)(hQ:∀p env M a w,St F p env M a w->K env M->Q .normal a w):
  ∀(ops:bL)(p:Ow)(env:Env)(M:Mem)(a:Act)(w:aQ),eM F.nt ops=true->(∀o∈ops,∀k,o.dst=some k->F.fv k=none)->St F p env M a w->twS B Φ (toL all) ops env M K->wpList P all Q ops a w:=
 λ_ _ _ _ _ _ _ _ _ h=>False.elim h
theorem Tq(hΦ:iv P F Φ)(hB:TabOk P B)(all:fK)(Q:gi)(K:Env->Mem->Prop)(hQ:∀p env M a w,St F p env M a w->K env M->Q .normal a w) :
  ∀(ops:bL)(p:Ow)(env:Env)(M:Mem)(a:Act)(w:aQ),eM F.nt ops=true->(∀o∈ops,∀k,o.dst=some k->F.fv k=none)->kJ (toL all) ops env->St F p env M a w->twQ B Φ (toL all) ops env M K->wpList P all Q ops a w
 |[],p,env,M,a,w,_,_,_,h,hk=>hQ p env M a w h hk
 |o::rest,p,env,M,a,w,hc,hfv,hI,h,hk=>by
  simp only[twQ]at hk;have hc1:=qE hc (gk);have hdst:=KC hc1 (hfv o ak);have ih:∀p' env' M' a' w',kJ (toL all) rest env'->St F p' env' M' a' w'->twQ B Φ (toL all) rest env' M' K->wpList P all Q rest a' w':=λp' env' M' a' w' h0 h1 h2=>Tq hΦ hB all Q K hQ rest p' env' M' a' w' (Aw hc).2.2.2 (λo' ho'=>hfv o' (by simp[ho'])) h0 h1 h2
  have step:tw B Φ (toL all) [o] env M (λenv M=>kJ (toL all) rest env/\twQ B Φ (toL all) rest env M K)->wpList P all Q (o::rest) a w:=λh1=>by
   have hst:=Kg hΦ hB all h h1 hc1 (hfv o ak) Q;unfold wpList;split at hst
   ·rename_i hw;rw[am hw];exact hst.imp (sc (λa' w' ⟨p',env',M',h1,h2⟩=>ih p' env' M' a' w' h2.1 h1 h2.2)) id
   ·rename_i hw;rw[aj hw];obtain⟨p',env',M',h1,h2⟩:=hst;exact ih p' env' M' _ w h2.1 h1 h2.2
  cases hgd:o.guard with
  |none=>
   rw[hgd]at hk;refine step ?_;simp only[tw];rw[hgd];obtain⟨vc,he,hvc⟩:=xN (B:=B) (Φ:=Φ) hI KK o M;rw[he];generalize evG B Φ (toL all) [] o env M=q at hk hvc⊢;obtain⟨vc',v,e,M'⟩:=q;simp only at hk hvc⊢
   cases hv:gf v with
   |true=>rw[hv]at hk;exact hk.elim
   |false=>rw[hv]at hk;simp only[bc,je]at hk;rw[je];exact⟨hvc hk.1,DN hI hv ⟨e,λt=>kV t e env⟩,hk.2⟩
  |some g=>
   obtain⟨j,want⟩:=g;rw[hgd]at hk;simp only at hk
   cases hd:iG (toL all) j with
   |none=>rw[hd]at hk;exact hk.elim
   |some dj=>
    rw[hd]at hk;simp only at hk;have hdj:(all[j]?).bind (·.dst)=some dj:=by rw[←J4];exact hd
    have hw:Region.wanted o (yielded all a.tmps)=(yB (a.tmps.getD dj undef)==some want):=by simp only[Region.wanted,hgd,IK hdj]
    have hev:(evR B Φ o env M).av=(evG B Φ (toL all) (gv (toL all) env 8 j want) o env M).av/\(evR B Φ o env M).ev=(evG B Φ (toL all) (gv (toL all) env 8 j want) o env M).ev/\(evR B Φ o env M).M=(evG B Φ (toL all) (gv (toL all) env 8 j want) o env M).M:=by
     unfold evR evG;split
     ·simp only[qU,BK,bR];cases aO [_,_,_]<;>simp[bad]
     ·exact⟨rfl,rfl,rfl⟩
    have hgood:gc (gt env dj) want->∃vc,evR B Φ o env M=⟨vc,(evG B Φ (toL all) (gv (toL all) env 8 j want) o env M).av,(evG B Φ (toL all) (gv (toL all) env 8 j want) o env M).ev,(evG B Φ (toL all) (gv (toL all) env 8 j want) o env M).M⟩/\(ab (evG B Φ (toL all) (gv (toL all) env 8 j want) o env M).vc->ab vc):=λhG=>xN (B:=B) (Φ:=Φ) hI (DW hI 8 j want dj hd hG) o M;generalize evG B Φ (toL all) (gv (toL all) env 8 j want) o env M=q at hk hev hgood;obtain⟨vc',v,e,M'⟩:=q;simp only[aO]at hk hev hgood;cases h1:gN (gt env dj)<;>rw[h1]at hk<;>try exact hk.elim
    cases h4:wIn dj (o::rest)<;>rw[h4]at hk<;>try exact hk.elim
    simp only[neg,aD,bc]at hk;have hy:=Fu _ _ want h1 (h.slots dj)
    cases hqf:nob (fG o) (fresh M e)with
    |true=>rw[hqf]at hk;simp only[aD]at hk;simp only[aP,ao]at hqf;refine step ?_;simp only[tw];rw[hgd];simp only[hd];generalize hq2:evR B Φ o env M=q2 at hev hgood;obtain⟨vc2,v2,e2,M2⟩:=q2;simp only at hev;obtain⟨rfl,rfl,rfl⟩:=hev;simp only[aO,h1,hqf.1,hqf.2,aD,x6]at hk⊢;refine⟨λhG=>?_,A7 hI hd h1 h4,hk.2⟩;obtain⟨vc3,e3,h3⟩:=hgood hG;cases e3;exact h3 (hk.1 hG)
    |false=>
     rw[hqf]at hk;simp only[bc]at hk
     cases hv:gf v with
     |true=>rw[hv]at hk;exact hk.elim
     |false=>
     rw[hv]at hk;simp only[bc,ifP,je]at hk;unfold wpList;rw[hw];by_cases hG:gc (gt env dj) want
     ·rw[am (hy.2 hG)];obtain⟨vc3,e3,h3⟩:=hgood hG;obtain⟨k1,k2⟩:=hk.1 hG;refine .inl (sc (λa' w' ⟨u,g1,p',g2,g3,g4,_⟩=>?_) (Bk hΦ hB h hc1 (by rw[e3];exact h3 k1) Q));rw[e3]at g2 g4;rw[g1];exact ih p' _ _ _ w' (DN hI hv ⟨e,λt=>kV t e env⟩) ((h.tr g2 g3).wrO _ u g4 hdst) k2
     ·rw[aj (λhh=>hG (hy.1 hh))];exact ih p _ _ _ w (A7 hI hd h1 h4) (h.wrO _ undef (by simp only[ae];exact⟨λhn=>absurd hn hG,λ_=>trivial⟩) hdst) (hk.2 hG)
theorem aa6{β:Type}(f:α->β)(l:List α):Gs f l=l.map f:=by
 induction l with
 |nil=>rfl
 |cons x l ih=>simp only[Gs,ih,iN]
theorem OP{e:Edge}:e∈(rB σ o).after<->∃e'∈o.after,e=L7 σ e':=by unfold rB;simp only[aa6,cK,List.mem_toArray,fX,jS];exact⟨λ⟨a,h1,h2⟩=>⟨a,h1,h2.symm⟩,λ⟨a,h1,h2⟩=>⟨a,h1,h2.symm⟩⟩
theorem Jv{σ:aZ}{l:bL}{o':bj}:∀{ks:aZ},o'∈mP σ l ks->∃o∈l,o'=rB σ o
 |[],h=>by cases h
 |k::r,h=>by
  simp only[mP]at h;split at h
  ·rename_i o ho;rcases cz.1 h with h|h
   ·rw[ti]at ho;exact⟨o,ul ho,h⟩
   ·exact Jv h
  ·exact Jv h
theorem Qi{σ:aZ}{l:bL}:∀{ks:aZ},(∀k∈ks,k<l.length)->(mP σ l ks).length=ks.length/\∀(j i:Nat)(o:bj),ks[j]? = some i->l[i]? = some o->(mP σ l ks)[j]? = some (rB σ o)
 |[],_=>⟨rfl,λj i o h=>by simp at h⟩
 |k::r,h=>by
  obtain⟨h1,h2⟩:=Qi (σ:=σ) (l:=l) (ks:=r) λx hx=>h x (by simp[hx]);have hk:=h k ak;obtain⟨o,ho⟩:∃o,l[k]? = some o:=⟨_,bU hk⟩;have e:mP σ l (k::r)=rB σ o::mP σ l r:=by simp only[mP,ti,ho]
  rw[e];refine⟨by simp[h1],λj i o' hj hi=>?_⟩
  cases j with
  |zero=>simp at hj;subst hj;rw[ho]at hi;cases hi;rfl
  |succ j=>simp at hj⊢;exact h2 j i o' hj hi
theorem DX(h:j<L.size):L.getD j true=L.getD j false:=by simp[h]
structure Perm (ops ops':fK) (σ:aZ) (n:Nat):Prop where
 s:ops.size=n
 s':ops'.size=n
 f:∀i,i<n->plc σ i<n/\σ[plc σ i]? = some i
 g:∀k,k<n->∃i,σ[k]? = some i/\i<n/\plc σ i=k
 op:∀(k i:Nat)(o:bj),σ[k]? = some i->ops[i]? = some o->ops'[k]? = some (rB σ o)
 gd:∀(i:Nat)(o:bj),ops[i]? = some o->o.guard=none
 bk:∀(i:Nat)(o:bj),ops[i]? = some o->∀e∈o.after,Region.binds .any e=true->e.on<n
theorem Perm.ready{n:Nat}(H:Perm ops ops' σ n){L':eQ}(hL:L.size=n)(hL':L'.size=n)(hr:∀i,i<n->L'.getD (plc σ i) true=L.getD i true){i:Nat}(hi:i<n):
  i∈Region.ready .any ops L<->plc σ i∈Region.ready .any ops' L':=by
 obtain⟨f1,f2⟩:=H.f i hi;obtain⟨o,ho⟩:∃o,ops[i]? = some o:=⟨_,sb (by rw[H.s];exact hi)⟩;have ho':=H.op _ _ _ f2 ho;rw[wg,wg,hr i hi];constructor
 ·rintro⟨h1,o1,h2,h3⟩;rw[ho]at h2;cases h2;refine⟨h1,_,ho',λe he hb=>?_⟩;obtain⟨e',k1,rfl⟩:=OP.1 he;have hn:=H.bk i o ho e' k1 hb;have hp:=H.f _ hn;have k2:=h3 e' k1 hb;rw[←DX (by rw[hL];exact hn),←hr _ hn,DX (by rw[hL'];exact hp.1)]at k2;exact k2
 ·rintro⟨h1,o1,h2,h3⟩;rw[ho']at h2;cases h2;refine⟨h1,_,ho,λe he hb=>?_⟩;have hn:=H.bk i o ho e he hb;have hp:=H.f _ hn;have k2:=h3 (L7 σ e) (OP.2 ⟨e,he,rfl⟩) hb;rw[←DX (by rw[hL];exact hn),←hr _ hn,DX (by rw[hL'];exact hp.1)];exact k2
theorem Zh{n:Nat}(H:Perm ops ops' σ n):∀(fuel:Nat)(L L':eQ)(a:Act)(w:aQ),L.size=n->L'.size=n->(∀i,i<n->L'.getD (plc σ i) true=L.getD i true)->
  wpAny P .any ops' Q fuel L' a w->wpAny P .any ops Q fuel L a w:=by
 have nil:∀(L L':eQ),L.size=n->L'.size=n->(∀i,i<n->L'.getD (plc σ i) true=L.getD i true)->(Region.ready .any ops L=[]<->Region.ready .any ops' L'=[]):=by
  intro L L' h1 h2 h3;have lt:∀{ops:fK} {L:eQ} {i:Nat},i∈Region.ready .any ops L->i<ops.size:=λh=>by obtain⟨_,o,ho,_⟩:=wg.1 h;exact (cN.1 ho).1
  constructor
  ·intro h
   cases hr:Region.ready .any ops' L' with
   |nil=>rfl
   |cons k r=>
    have hk:k∈Region.ready .any ops' L':=by rw[hr];simp
    have hkn:=lt hk;rw[H.s']at hkn;obtain⟨i,i1,i2,i3⟩:=H.g k hkn;rw[←i3]at hk;have:=(H.ready h1 h2 h3 i2).2 hk;rw[h]at this;cases this
  ·intro h
   cases hr:Region.ready .any ops L with
   |nil=>rfl
   |cons i r=>
    have hi:i∈Region.ready .any ops L:=by rw[hr];simp
    have hin:=lt hi;rw[H.s]at hin;have:=(H.ready h1 h2 h3 hin).1 hi;rw[h]at this;cases this
 intro fuel
 induction fuel with
 |zero=>intro L L' a w h1 h2 h3 h;exact⟨(nil L L' h1 h2 h3).2 h.1,h.2⟩
 |succ fuel ih=>
  intro L L' a w h1 h2 h3 h;refine⟨λhn=>h.1 ((nil L L' h1 h2 h3).1 hn),λi hi=>?_⟩;obtain⟨_,o,ho,_⟩:=wg.1 hi;have hin:=(cN.1 ho).1;rw[H.s]at hin;have hk:=h.2 _ ((H.ready h1 h2 h3 hin).1 hi);obtain⟨f1,f2⟩:=H.f i hin;have ho':=H.op _ _ _ f2 ho;have hg:=H.gd i o ho
  have e:∀K:Act->World->Prop,wpOp P ops' Q (plc σ i) K a w->wpOp P ops Q i K a w:=by
   intro K hh;unfold wpOp at hh⊢;rw[ho']at hh;rw[ho];have g1:Region.wanted o (yielded ops a.tmps)=true:=by simp[Region.wanted,hg]
   have g2:Region.wanted (rB σ o) (yielded ops' a.tmps)=true:=by simp[Region.wanted,rB,hg]
   simp only[g2,dA]at hh;simp only[g1,dA];exact hh
  refine wi (λa' w' hh=>ih _ _ a' w' (by simpa using h1) (by simpa using h2) (λj hj=>?_) hh) (e _ hk);by_cases hji:j=i
  ·subst hji;simp[h1,h2,hin,f1]
  ·have hne:plc σ i≠plc σ j:=λhh=>by have:=(H.f j hj).2;rw[←hh,f2]at this;cases this;exact hji rfl
   rw[pP true hne,pP true (cM hji)];exact h3 j hj
theorem OX:∀{l:bL},BL l=true->∀o∈l,o.guard=none
 |[],_,_,h=>by cases h
 |o::r,h,o',ho'=>by
  simp only[BL,aP,ao]at h;rcases cz.1 ho' with e|e
  ·subst e;have:=h.1
   cases hg:o'.guard with
   |none=>rfl
   |some g=>rw[hg]at this;cases this
  ·exact OX h.2 o' e
theorem JV{α:Type}:∀l:List α,len l=l.length
 |[]=>rfl
 |_::r=>by rw[len,JV r];rfl
theorem Ui(b:bo):nob b true=b:=by cases b<;>rfl
theorem QB{m i:Nat}(h:i<m)(hf:gx l.length (cL [] l) m i=true):(FB l m).getD i false=true:=by unfold FB;rw[br,gJ,n6 h];simp only[fq,gA,JV];exact hf
theorem Pu:∀e:List Ev,vt [] e=true
 |[]=>rfl
 |x::e=>by
  have h:xv [] x=true:=by cases x<;>rfl
  simp only[vt,h,Pu e,aP,n5]
theorem Jz:∀(ls:List (List Oper)) (fs:gj) (l:bL) (env:Env) (M:Mem),lw [] [] B Φ ls fs l env M=true
 |_,_,[],_,_=>rfl
 |ls,fs,o::r,env,M=>by have e:L6 []=true:=rfl;simp only[lw,e,Pu,eX,Bool.true_or,zg,aP,gB];exact Jz _ _ r _ _
theorem Sm(hΦ:iv P F Φ)(hB:TabOk P B)(hmix:P.follows .mixedOrders=true){R R2:bo}{ks as:aZ}(hco:eM F.nt (dp R (toL ops))=true)(hfv:∀o∈toL ops,∀k,o.dst=some k->F.fv k=none)(hr:Gp R R2 (toL ops) cut=true)(hR:R2=false->ks=[])(hD:∀i,i<cut->gx (dp R (toL ops)).length (cL [] (dp R (toL ops))) cut i=true->Ds.getD i false=true)(hQ:∀p env M a w,St F p env M a w->K env M->Q .normal a w)(h:St F p env M a w)(hn:lj env=true)(hk:hx Ds ks as B Φ M (cj cut (dp R (toL ops))) env [] (λenv X=>bif nob (nogd env) (lw ks as B Φ (lZ (dp R (toL ops)) cut) (lV (dp R (toL ops)) cut) (fe cut (dp R (toL ops))) env (ap X M))then twG B Φ (dp R (toL ops)) (fe cut (dp R (toL ops))) env (ap X M) K else False)):(Code.region id ops true).wp P Q a w:=by
 simp only[Gp,ao]at hr;obtain⟨h1,h2,h3,h4⟩:=hr;simp only[KH,ao,gL,C7,JV]at h2;obtain⟨⟨p1,p2⟩,p3⟩:=h2;have p1:=cR p1;have hσ:dp R (toL ops)=mP (B9 R (toL ops)) (toL ops) (B9 R (toL ops)):=rfl;generalize B9 R (toL ops)=σ at *
 have hg:∀k,k<(toL ops).length->∃i,σ[k]? = some i/\i<(toL ops).length/\plc σ i=k:=λk hk=>by
  have:=p3 k hk
  cases hs:dT σ k with
  |none=>rw[hs]at this;cases this
  |some i=>rw[hs]at this;simp only[ao,pQ]at this;rw[ti]at hs;exact⟨i,hs,this.1,cR this.2⟩
 have hmem:∀k∈σ,k<(toL ops).length:=λk hk=>by obtain⟨j,hj,rfl⟩:=jP hk;obtain⟨i,i1,i2,_⟩:=hg j aa;rw[bU hj]at i1;cases i1;exact i2
 obtain⟨g1,g2⟩:=Qi (σ:=σ) (l:=toL ops) hmem;have hsz:(toL ops).length=ops.size:=by rw[cK];simp
 have H:Perm ops ⟨dp R (toL ops)⟩ σ ops.size:={
  s:=rfl
  s':=by show (dp R (toL ops)).length=ops.size;rw[hσ,g1,p1,hsz]
  f:=λi hi=>by
   have:=p2 i (by rw[hsz];exact hi);simp only[pQ]at this;refine⟨by rw[←hsz];exact this.1,?_⟩;have h5:=this.2;rw[ti]at h5
   cases hs:σ[plc σ i]? with
   |none=>rw[hs]at h5;cases h5
   |some k=>rw[hs]at h5;rw[cR h5]
  g:=λk hk=>by obtain⟨i,i1,i2,i3⟩:=hg k (by rw[hsz];exact hk);exact⟨i,i1,by rw[←hsz];exact i2,i3⟩
  op:=λk i o hk ho=>by have:=g2 k i o hk (by rw[cK];simpa using ho);rw[←hσ]at this;simpa using this
  gd:=λi o ho=>OX h3 o (by rw[cK,jS];exact sd ho)
  bk:=λi o ho e he hb=>by have:=DF (toL ops) 0 h1 i o (by rw[cK];simpa using ho) e he hb;have hi:=(cN.1 ho).1;omega }
 refine C6 hmix (Zh H _ _ (Array.replicate ops.size false) a _ ak ak (λi hi=>?_) ?_)
 ·have:=(H.f i hi).1;simp[hi,this]
 ·have hz:(⟨dp R (toL ops)⟩:Array Oper).size=ops.size:=H.s';have:=PB (F:=F) (ops:=⟨dp R (toL ops)⟩) (cut:=cut) (K:=K) (Q:=Q) (P:=P) hΦ hB (by exact hco) (λo ho k hk=>by obtain⟨o',q1,rfl⟩:=Jv (by rw[←hσ];exact ho);exact hfv o' q1 k hk) h4 hR (λ_=>hD) hQ h hn hk;rw[hz]at this;exact this
structure AddE (ops ops':fK) (j i:Nat):Prop where
 s:ops'.size=ops.size
 ne:∀k,k≠j->ops'[k]? = ops[k]?
 at_:∀o,ops[j]? = some o->ops'[j]? = some (T7 i o)
 gd:∀(k:Nat)(o:bj),ops[k]? = some o->o.guard=none
theorem adq(hΦ:iv P F Φ)(hB:TabOk P B)(hmix:P.follows .mixedOrders=true)(hfv:∀o∈toL ops,∀k,o.dst=some k->F.fv k=none)(hr:TR F.nt (toL ops)=true)(hQ:∀p env M a w,St F p env M a w->K env M->Q .normal a w)(h:St F p env M a w)(hA:hxT B Φ (FW (toL ops)) (kK 0 (toL ops)) env M K)(hB':hxT B Φ (Gg (toL ops)) (Nat.succ (kK 0 (toL ops))) env M K):(Code.region id ops true).wp P Q a w:=by
 exact False.elim hA
theorem abc(h:St F p env M a w){t:Nat}(hb:(gt env t).isB=true):a.tmps.getD t undef=.bool (gt env t).boolV:=by obtain⟨b,h1,h2⟩:=Er hb;have:=h.slots t;rw[h1,bp,gY]at this;rw[this,h2]
theorem k9(hΦ:fR P Φ)(hB:TabOk P B)(hmix:P.follows .mixedOrders=true)(cut:ju):(c:jv)->(F:Fr)->ln P F->(A:Ann)->(K:Ex->Env->Mem->Prop)->(env:Env)->(M:Mem)->okC F.nt cut c=true->qT F.fv c->ev B Φ cut c A K env M->
  ∀(p:Ow)(a:Act)(w:aQ),St F p env M a w->c.wp P (iZ F K) a w
 |.skip,F,hG,A,K,env,M,_,_,h,p,a,w,hs=>by simp only[ev]at h;exact wp_skip ⟨p,env,M,hs,h⟩
 |.ret,F,hG,A,K,env,M,_,_,h,p,a,w,hs=>by simp only[ev]at h;exact wp_ret ⟨p,env,M,hs,h⟩
 |.exit id,F,hG,A,K,env,M,_,_,h,p,a,w,hs=>by simp only[ev]at h;exact wp_exit ⟨p,env,M,hs,h⟩
 |.seq x y,F,hG,A,K,env,M,hc,hf,h,p,a,w,hs=>by
  simp only[okC,aP,ao]at hc
  have fin:∀A2:Ann,x.wp P (iZ F (me (λenv M=>ev B Φ cut y A2 K env M) K)) a w->(Code.seq x y).wp P (iZ F K) a w:=λA2 hw=>by
   refine wp_seq (oC (λe a' w' he=>?_) hw)
   cases e with
   |normal=>obtain⟨p',env',M',h1,h2⟩:=he;exact k9 hΦ hB hmix cut y F hG A2 K env' M' hc.2 hf.2 h2 p' a' w' h1
   |exit id|ret|goto l=>exact he
   |panic c|outgrown=>exact he.elim
  have nj:∀A:Ann,ev B Φ cut (.seq x y) A K env M=ev B Φ cut x A.fst (me (λenv M=>ev B Φ cut y A.snd K env M) K) env M->ev B Φ cut (.seq x y) A K env M->(Code.seq x y).wp P (iZ F K) a w:=λA e h=>by rw[e]at h;exact fin A.snd (k9 hΦ hB hmix cut x F hG A.fst _ env M hc.1 hf.1 h p a w hs)
  cases A with
  |n|s A1 A2|l ss os ks A=>exact nj _ (by simp only[ev]) h
  |j ss os ks A=>
   simp only[ev]at h
   cases hb:noW ks x with
   |false=>rw[hb]at h;exact h.elim
   |true=>rw[hb]at h;simp only[aD,bK]at h;exact fin A.snd (Ku hs (k9 hΦ hB hmix cut x (mkF F (Imm F p M w) w ks a) hG A.fst _ env M hc.1 (nF x hb hf.1) h p a w (hs.fwd ks)))
 |.region id ops draw,F,hG,A,K,env,M,hc,hf,h,p,a,w,hs=>by
  simp only[okC,aP,ao]at hc;simp only[ev]at h;have hQ:∀p env M a w,St F p env M a w->(λenv M=>K .nm (clr env) M) env M->iZ F K .normal a w:=λp env M a w h1 h2=>⟨p,clr env,M,h1.weak (KQ env),h2⟩
  cases draw with
  |false=>
   simp only at h;have h1:=hc.1;have h2:∀o∈ops.toList,∀k,o.dst=some k->F.fv k=none:=by rw[←cK];exact hf
   rw[cK]at h1
   cases hsq:Nat.beq (cut id) 1600 with
   |true=>
    rw[hsq]at h;simp only[aD]at h
    cases hn:nogd env with
    |false=>rw[hn]at h;exact h.elim
    |true=>
    rw[hn]at h;have:=Tq (P:=P) ⟨hΦ,hG⟩ hB ops (iZ F K) (λenv M=>K .nm (clr env) M) hQ ops.toList p env M a w h1 h2 (Eg hn) hs (by rw[←cK ops];exact h);have e:ops=ops.toList.toArray:=ak
    rw[e];exact wp_region_lit (by simpa using this)
   |false=>
   rw[hsq]at h;simp only[bc]at h
   cases hsp:Nat.beq (cut id) 1500 with
   |true=>
    rw[hsp]at h;simp only[aD]at h;have:=adc (P:=P) ⟨hΦ,hG⟩ hB ops (iZ F K) (λenv M=>K .nm (clr env) M) hQ ops.toList p env M a w h1 h2 hs (by rw[←cK ops];exact h);have e:ops=ops.toList.toArray:=ak
    rw[e];exact wp_region_lit (by simpa using this)
   |false=>
   rw[hsp]at h;simp only[bc]at h
   cases hn:nogd env with
   |false=>rw[hn]at h;exact h.elim
   |true=>
   rw[hn]at h;replace h:=xM (B:=B) (Φ:=Φ) _ _ _ (Eg hn) h;have:=Tw (P:=P) ⟨hΦ,hG⟩ hB ops (iZ F K) (λenv M=>K .nm (clr env) M) hQ ops.toList p env M a w h1 h2 hs (by rw[←cK ops];exact h);have e:ops=ops.toList.toArray:=ak
   rw[e];exact wp_region_lit (by simpa using this)
  |true=>
   simp only at h
   cases hbx:Nat.beq (cut id) 999999 with
   |true=>rw[hbx]at h hc;simp only[aD]at h;have hs1:=sU [] (tu env (toL ops)) M env hs;generalize jf [] (tu env (toL ops)) M env=z at h hs1;obtain⟨env1,M1⟩:=z;exact adf ⟨hΦ,hG⟩ hB hmix hc.1 hf hc.2 hQ hs1 h
   |false=>
   rw[hbx]at h hc;simp only[bc]at h hc
   cases htw:Nat.beq (cut id) 999998 with
   |true=>rw[htw]at h hc;simp only[aD]at h hc;exact adq ⟨hΦ,hG⟩ hB hmix hf hc.2 hQ hs h.1 h.2
   |false=>
   rw[htw]at h hc;simp only[bc]at h hc
   cases hpq:Nat.ble 10000 (cut id)with
   |true=>
    rw[hpq]at h hc;simp only[aD]at h hc;generalize mC (cut id)=n at h hc;generalize hrC (cut id)=hr0 at h hc;generalize Gk (cut id)=ks at h
    cases hn:lj env with
    |false=>rw[hn]at h;exact h.elim
    |true=>
    rw[hn]at h;simp only[aD]at h;have hc2:=hc.2;simp only[aP,ao]at hc2;exact Sm (R:=hr0) (R2:=true) (ks:=ks) (as:=[]) ⟨hΦ,hG⟩ hB hmix hc2.1 hf hc2.2 (λh=>by cases h) (λi hi hfl=>QB hi hfl) hQ hs hn h
   |false=>
   rw[hpq]at h hc;simp only[bc]at h hc
   cases hpm:Nat.ble 2000 (cut id)with
   |true=>
    rw[hpm]at h hc;simp only[aD]at h hc;generalize Nat.sub (cut id) (v7 (cut id))=n at h hc;generalize (bif Nat.ble 5000 (cut id)then xL env (toL ops)else [])=as at h
    obtain⟨env1,M1,e1,hs1⟩:∃env1 M1,(bif Gq (cut id)then jf [] (tu env (toL ops)) M env else (env,M))=(env1,M1)/\St F p env1 M1 a w:=by
     cases Gq (cut id)with
     |true=>exact⟨_,_,rfl,sU [] (tu env (toL ops)) M env hs⟩
     |false=>exact⟨env,M,rfl,hs⟩
    rw[e1]at h;simp only at h
    cases hn:lj env1 with
    |false=>rw[hn]at h;exact h.elim
    |true=>
    rw[hn]at h;simp only[aD]at h;have hc2:=hc.2;simp only[aP,ao]at hc2;exact Sm (R:=false) (R2:=false) (ks:=[]) (as:=as) ⟨hΦ,hG⟩ hB hmix hc2.1 hf hc2.2 (λ_=>rfl) (λi hi hfl=>QB hi hfl) hQ hs1 hn h
   |false=>
   rw[hpm]at h hc;simp only[bc]at h hc
   cases hfx:Nat.ble 1000 (cut id)with
   |true=>
    rw[hfx]at h hc;simp only[aD]at h hc;generalize Nat.sub (cut id) 1000=n at h hc;obtain⟨env1,M1,e1,hs1⟩:∃env1 M1,jf [] (Bj env (toL ops)) M env=(env1,M1)/\St F p env1 M1 a w:=⟨_,_,rfl,sU [] (Bj env (toL ops)) M env hs⟩;rw[e1]at h;simp only at h
    cases hn:lj env1 with
    |false=>rw[hn]at h;exact h.elim
    |true=>
    rw[hn]at h;simp only[aD]at h;exact QO (R:=false) (ks:=[]) (as:=[]) ⟨aad hΦ,hG⟩ hB hmix hc.1 hf hc.2 (λ_=>rfl) (λh=>by cases h) hQ hs1 hn (by simp only[Jz,Ui];exact h)
   |false=>
   rw[hfx]at h hc;simp only[bc]at h hc
   cases hhx:Nat.ble 500 (cut id)with
   |true=>
    rw[hhx]at h hc;simp only[aD]at h hc;generalize Nat.sub (cut id) 500=n at h hc
    cases hn:lj env with
    |false=>rw[hn]at h;exact h.elim
    |true=>
    rw[hn]at h;simp only[aD]at h;exact QO (R:=false) (ks:=[]) (as:=[]) ⟨hΦ,hG⟩ hB hmix hc.1 hf hc.2 (λ_=>rfl) (λh=>by cases h) hQ hs hn (by simp only[Jz,Ui];exact h)
   |false=>
   rw[hhx]at h hc;simp only[bc]at h hc
   cases hn:nogd env with
   |false=>rw[hn]at h;exact h.elim
   |true=>
   rw[hn]at h;replace h:=KT (B:=B) (Φ:=Φ) (λenv hI he=>xM (B:=B) (Φ:=Φ) _ _ _ hI he) _ _ _ (Eg hn) h;exact ab1 ⟨hΦ,hG⟩ hB hmix hc.1 hf hc.2 hQ hs h
 |.cond g x y,F,hG,A,K,env,M,hc,hf,h,p,a,w,hs=>by
  simp only[okC,aP,ao]at hc
  cases g with
  |const v|func v|global v=>simp only[ev]at h
  |tmp t=>
   have plain:∀(A1 A2:Ann)(F':Fr)(hG':ln P F')(K':Ex->Env->Mem->Prop),F'.nt=F.nt->qT F'.fv x->qT F'.fv y->St F' p env M a w->(gt env t).isB=true->cnd (gt env t).boolV (ev B Φ cut x A1 K' env M) (ev B Φ cut y A2 K' env M)->(Code.cond (.tmp t) x y).wp P (iZ F' K') a w:=λA1 A2 F' hG' K' hnt hfx hfy hs' hb hcn=>wp_cond_split (t:=(gt env t).boolV) (abc hs' hb) (λe=>k9 hΦ hB hmix cut x F' hG' A1 K' env M (by rw[hnt];exact hc.1) hfx (hcn.1 e) p a w hs') (λe=>k9 hΦ hB hmix cut y F' hG' A2 K' env M (by rw[hnt];exact hc.2) hfy (hcn.2 e) p a w hs')
   have nj:∀A:Ann,ev B Φ cut (.cond (.tmp t) x y) A K env M=(bif (gt env t).isB then cnd (gt env t).boolV (ev B Φ cut x A.fst K env M) (ev B Φ cut y A.snd K env M)else False)->ev B Φ cut (.cond (.tmp t) x y) A K env M->(Code.cond (.tmp t) x y).wp P (iZ F K) a w:=λA e h=>by
    rw[e]at h
    cases hb:(gt env t).isB with
    |false=>rw[hb]at h;exact h.elim
    |true=>rw[hb]at h;exact plain A.fst A.snd F hG K rfl hf.1 hf.2 hs hb h
   cases A with
   |n|s A1 A2|l ss os ks A=>exact nj _ (by simp only[ev]) h
   |j ss os ks A=>
    simp only[ev]at h
    cases hb:aO [(gt env t).isB,noW ks x,noW ks y]with
    |false=>rw[hb]at h;exact h.elim
    |true=>rw[hb]at h;simp only[aD,bK]at h;simp only[bH,bJ,bC,ao]at hb;exact Ku hs (plain A.fst A.snd (mkF F (Imm F p M w) w ks a) hG _ rfl (nF x hb.2.1 hf.1) (nF y hb.2.2 hf.2) (hs.fwd ks) hb.1 h)
 |.block id c,F,hG,A,K,env,M,hc,hf,h,p,a,w,hs=>by
  simp only[okC]at hc
  have fin:∀(F':Fr)(K2:Ex->Env->Mem->Prop),c.wp P (iZ F' (pD id K2)) a w->(Code.block id c).wp P (iZ F' K2) a w:=λF' K2 hw=>by
   refine wp_block (oC (λe a' w' he=>?_) hw)
   cases e with
   |normal=>exact he
   |exit id'=>
    obtain⟨p',env',M',h1,h2⟩:=he;simp only[pD,cS]at h2;simp only[Exit.inBlock];split at h2
    ·rename_i e;rw[am e];exact⟨p',env',M',h1,h2⟩
    ·rename_i e;rw[aj e];exact⟨p',env',M',h1,h2⟩
   |ret|goto l=>exact he
   |panic c|outgrown=>exact he.elim
  have nj:∀A:Ann,ev B Φ cut (.block id c) A K env M=ev B Φ cut c A (pD id K) env M->ev B Φ cut (.block id c) A K env M->(Code.block id c).wp P (iZ F K) a w:=λA e h=>by rw[e]at h;exact fin F K (k9 hΦ hB hmix cut c F hG A _ env M hc hf h p a w hs)
  cases A with
  |n|s A1 A2|l ss os ks A=>exact nj _ (by simp only[ev]) h
  |j ss os ks A=>
   simp only[ev]at h
   cases hb:noW ks c with
   |false=>rw[hb]at h;exact h.elim
   |true=>rw[hb]at h;simp only[aD,bK]at h;exact Ku hs (fin _ _ (k9 hΦ hB hmix cut c (mkF F (Imm F p M w) w ks a) hG A _ env M hc (nF c hb hf) h p a w (hs.fwd ks)))
 |.loop c,F,hG,A,K,env,M,hc,hf,h,p,a,w,hs=>by
  simp only[okC]at hc
  cases A with
  |n|s A1 A2|j ss os ks A=>simp only[ev]at h
  |l ss os ks A=>
   simp only[ev]at h
   cases hb:noW ks c with
   |false=>rw[hb]at h;exact h.elim
   |true=>
    rw[hb]at h;simp only[aD]at h
    cases hrd:tG ss os env M with
    |none=>rw[hrd]at h;exact h.elim
    |some q=>
     rw[hrd]at h;simp only[aK]at h;obtain⟨n,hn⟩:=h;obtain⟨p1,h1,hK⟩:=Jw hs hrd;obtain⟨o1,o2⟩:=Jc hs hrd;generalize hbody:(λ(s:gP ss×eO os) (next:gP ss×eO os->Prop)=>imps (okS ss s.1) (imps (okO os s.2) (ev B Φ cut c A (jG ss os next K) (ap (pw ss s.1) (kept q.2 ks)) (dz os s.2))))=body at hn
     have key:=Y3 (P:=P) (c:=c) (Q':=iZ F K) (ι:=Nat) (λn a1 w1=>∃(p2:Ow)(s:gP ss×eO os),St (mkF F (Imm F p1 (dz os q.1.2) w) w ks a) p2 (ap (pw ss s.1) (kept q.2 ks)) (dz os s.2) a1 w1/\ab (okS ss s.1)/\ab (okO os s.2)/\jk body n s) id
      (λn a1 w1 ⟨p2,s,g1,g2,g3,g4⟩=>by
       cases n with
       |zero=>simp only[jk]at g4
       |succ n=>
        simp only[jk]at g4;have hb1:=congrFun (congrFun hbody s) (jk body n);rw[←hb1]at g4;simp only[P7]at g4;refine oC (λe a' w' he=>?_) (k9 hΦ hB hmix cut c (mkF F (Imm F p1 (dz os q.1.2) w) w ks a) hG A _ _ _ hc (nF c hb hf) (g4 g2 g3) p2 a1 w1 g1)
        cases e with
        |normal=>
         obtain⟨p3,env3,M3,k1,k2⟩:=he;simp only[jG,BH]at k2
         cases hr3:tG ss os env3 M3 with
         |none=>rw[hr3]at k2;exact k2.elim
         |some s'=>rw[hr3]at k2;obtain⟨p4,k3,_⟩:=Jw k1 hr3;obtain⟨k4,k5⟩:=Jc k1 hr3;exact⟨n,ww n,p4,s'.1,St.add hK k3,k4,k5,k2⟩
        |exit id|ret|goto l=>obtain⟨p3,env3,M3,k1,k2⟩:=he;exact⟨p3,env3,M3,h1.back k1,k2⟩
        |panic ch=>exact he.elim
        |outgrown=>exact he.elim)
     exact key n a w ⟨p1,q.1,St.add hK (h1.fwd ks),o1,o2,hn⟩
 |.scope c,F,hG,A,K,env,M,hc,hf,h,p,a,w,hs=>by
  simp only[okC]at hc;simp only[ev]at h;refine wp_scope_straight (oC (λe a' w' he=>?_) (k9 hΦ hB hmix cut c F hG A _ env M hc hf h p a w hs))
  cases e with
  |goto l=>obtain⟨_,_,_,_,h2⟩:=he;exact h2.elim
  |normal|exit id|ret|panic ch|outgrown=>exact he
 |.goto l,F,hG,A,K,env,M,_,_,h,p,a,w,hs=>by simp only[ev]at h;exact wp_goto ⟨p,env,M,hs,h⟩
 |.label _,F,hG,A,K,env,M,_,_,h,p,a,w,hs=>by simp only[ev]at h;exact wp_label ⟨p,env,M,hs,h⟩
 |.rangeFunc _ _ _ _,F,hG,A,K,env,M,_,_,h,p,a,w,hs|.refuse _,F,hG,A,K,env,M,_,_,h,p,a,w,hs=>by simp only[ev]at h
theorem P0{Im Im':aT}{w:aQ}:(rs:gH)->nU rs=true->(x:bY rs)->(S:aT)->(us:aM)->cp Im w rs x S us->cp Im' w rs x S us
 |[],_,x,S,us,r=>by simpa only [cp]using r
 |q::rs,h,x,S,us,r=>by simp only[nU,aP,ao]at h;simp only[cp]at r⊢;obtain⟨u,us',vs,S1,S2,e1,e2,e3,e4,e5,e6,e7,e8⟩:=r;exact⟨u,us',vs,S1,S2,e1,e2,e3,e4,e5,e6,uP _ h.1 _ _ _ e7,P0 rs h.2 _ _ _ e8⟩
theorem ack{r:bw}(h:(Instr.loadAt t u).run P w=.ok r w):(do loadVar t (←asAddr u):Sem Value).run P w=.ok r w:=by
 cases u<;>simp[Instr.loadAt,Instr.sureAddr]at h
 case pointer o=>
  cases o with
  |none=>simp at h
  |some ad=>simpa[asAddr]using h
def BX(tmps:nz):ResultVar->Sem Value
 |.tmp t=>pure (tmps.getD t undef)
 |.cell t ty'=>do loadVar ty' (←asAddr (tmps.getD t undef))
theorem A4(fn:Func)(tmps:nz):results fn tmps=(do let vs ←fn.results.mapM (BX tmps);pure (if h:vs.size=1 then vs[0]else .tuple vs):Sem Value):=by unfold results;congr
theorem JM(hB:TabOk P B)(hp:Hp F p M w)(hs:∀t,ae p.β M (Imm F p M w) w (gt env t) (a.tmps.getD t undef))(rv:ResultVar)(v:V)(hv:y4 B env M rv=some v):
  ∃r,(BX a.tmps rv).run P w=.ok r w/\ae p.β M (Imm F p M w) w v r:=by
 cases rv with
 |tmp t=>simp only[y4,aI]at hv;subst hv;exact⟨_,by simp[BX],hs t⟩
 |cell t ty'=>
  simp only[y4]at hv;split at hv
  ·rename_i v' he;cases hv;obtain⟨r,h1,h2⟩:=OL (P:=P) hB hp _ _ (hs t) (by rw[he];trivial);rw[he]at h2;exact⟨r,ack h1,h2⟩
  ·cases hv
theorem Rw(hp:Hp F p M w)(h:ae p.β M (Imm F p M w) w v u)(hc:fP (dS g v)=true):∃vs:List Value,(g=true->u=.agg vs.toArray)/\(g=false->vs=[u])/\ac p.β M (Imm F p M w) w (dS g v) vs:=by
 cases v with
 |ag y=>
  cases g with
  |false=>simp[dS,fP]at hc
  |true=>simp only[ae]at h;obtain⟨vs,h1,h2⟩:=h;exact⟨vs,λ_=>h1,(λh=>nomatch h),by simpa only [dS,aD]using h2⟩
 |any|tup _|gd _ _ _ _=>cases g<;>simp[dS,fP]at hc
 |ifc t x=>cases g with
  |true=>simp[dS,fP]at hc
  |false=>exact⟨[u],(λh=>nomatch h),λ_=>rfl,by simpa only [dS,bc,ae]using h⟩
 |p x y=>cases g with
  |true=>simp[dS,fP]at hc
  |false=>exact⟨[u],(λh=>nomatch h),λ_=>rfl,by simpa only [dS,bc,ae]using h⟩
 |u=>cases g with
  |true=>simp[dS,fP]at hc
  |false=>exact⟨[u],(λh=>nomatch h),λ_=>rfl,by simpa only [dS,bc,ae]using h⟩
 |ref k π=>cases g with
  |true=>simp[dS,fP]at hc
  |false=>exact⟨[u],(λh=>nomatch h),λ_=>rfl,by simpa only [dS,bc,ae]using h⟩
 |ad k π=>cases g with
  |true=>simp[dS,fP]at hc
  |false=>exact⟨[u],(λh=>nomatch h),λ_=>rfl,by simpa only [dS,bc,ae]using h⟩
 |d t x=>cases g with
  |true=>simp[dS,fP]at hc
  |false=>exact⟨[u],(λh=>nomatch h),λ_=>rfl,by simpa only [dS,bc,ae]using h⟩
 |nl=>cases g with
  |true=>simp[dS,fP]at hc
  |false=>exact⟨[u],(λh=>nomatch h),λ_=>rfl,by simpa only [dS,bc,ae]using h⟩
 |np=>cases g with
  |true=>simp[dS,fP]at hc
  |false=>exact⟨[u],(λh=>nomatch h),λ_=>rfl,by simpa only [dS,bc,ae]using h⟩
 |fn f x=>cases g with
  |true=>simp[dS,fP]at hc
  |false=>exact⟨[u],(λh=>nomatch h),λ_=>rfl,by simpa only [dS,bc,ae]using h⟩
 |bx x=>cases g with
  |true=>simp[dS,fP]at hc
  |false=>exact⟨[u],(λh=>nomatch h),λ_=>rfl,by simpa only [dS,bc,ae]using h⟩
theorem ac2(hp:Hp F p M w)(o:O)(v:V)(vs:aM)(x:o.strip.den)(e:bM)(r:ac p.β M (Imm F p M w) w v vs)(h:Gm M o v=some (x,e,M')):
  ∃p',∃S:Nat->Prop,Tr F p M w e p' M' w/\(∀b,p'.L b<->p.L b\/S b)/\(∀b,S b->¬p.L b)/\Rel (Imm F p' M' w) w o x S vs:=by
 unfold Gm at h;split at h
 ·rename_i k i;split at h
  ·rename_i e0 l hk
   cases hb:d6 k gid with
   |false=>rw[hb]at h;cases h
   |true=>
    rw[hb]at h;simp only[aD]at h;split at h
    ·rename_i y hy;cases h;have hg:k<gid:=by simp only[d6,bH,bJ,bC,ao]at hb;exact eU hb.2
     simp only[ac]at r;obtain⟨ob,pl,h1,h2,⟨q,h3⟩,h4⟩:=r;rw[hk]at h1;cases h1;have hi:i<l.length:=by simp only[gok]at h2;exact h2.1
     have hrel:=hp.objs k _ hk;obtain⟨us,pl1,Si,e1,e2,e3,_⟩:=IS hi hrel;rw[e1 none]at h4;cases h4;have cv:=Cv.whole hp gid hk hg;obtain⟨w1,w2⟩:=uU hy;obtain⟨S',s1,s2⟩:=nQ e0 o w1 _ x Si vs w2 (Rel.keep cv.tr.keep _ _ _ _ (λ_ _=>rfl) e3);have hd:=Tr.drop cv.tr.hp (λb=>p.L b\/S' b) (λb hb=>(cv.L b).2 (hb.imp id (λh=>e2 b (s1 b h))));refine⟨⟨p.β,p.σ,λb=>p.L b\/S' b⟩,S',by have:=cv.tr.trans hd;rwa [qS]at this,λb=>jQ,λb hb=>cv.sp b (e2 b (s1 b hb)),s2 _ (λb hb=>(hd.keep b hb).1) (λb hb hn=>?_)⟩;have hl:=cv.tr.hp.lim b ((cv.L b).2 (.inr (e2 b hb)));exact⟨hl.1,.inr hl.2.1.r,λh=>h.elim (cv.sp b (e2 b hb)) hn,hl.2.2⟩
    ·cases h
  ·cases h
 ·cases h
theorem Re(hp:Hp F p M w)(o:O)(v:V)(vs:aM)(x:o.strip.den)(e:bM)(r:ac p.β M (Imm F p M w) w v vs)(h:Gf M o v=some (x,e,M')):
  ∃p',∃S:Nat->Prop,Tr F p M w e p' M' w/\(∀b,p'.L b<->p.L b\/S b)/\(∀b,S b->¬p.L b)/\Rel (Imm F p' M' w) w o x S vs:=by
 have key:(match conv gid o.strip v M with
  |some (q,e,M')=>(match wkO q o with|some x=>some (x,e,M')|none=>Gm M o v)
  |none=>none)=some (x,e,M')->∃p',∃S:Nat->Prop,Tr F p M w e p' M' w/\(∀b,p'.L b<->p.L b\/S b)/\(∀b,S b->¬p.L b)/\Rel (Imm F p' M' w) w o x S vs:=λh=>by
  split at h
  ·rename_i q e1 M1 hc;split at h
   ·rename_i y hy;cases h;obtain⟨_,p1,S,cv⟩:=uW gid o.strip v M p vs q e M' hp r hc;obtain⟨w1,w2⟩:=uU hy;obtain⟨S',s1,s2⟩:=nQ q.o o w1 q.x x S vs w2 cv.rel;have hd:=Tr.drop cv.tr.hp (λb=>p.L b\/S' b) (λb hb=>(cv.L b).2 (hb.imp id (s1 b)));refine⟨⟨p1.β,p1.σ,λb=>p.L b\/S' b⟩,S',by have:=cv.tr.trans hd;rwa [qS]at this,λb=>jQ,λb hb=>cv.sp b (s1 b hb),s2 _ (λb hb=>(hd.keep b hb).1) (λb hb hn=>?_)⟩;have hl:=cv.tr.hp.lim b ((cv.L b).2 (.inr hb));exact⟨hl.1,.inr hl.2.1.r,λh=>h.elim (cv.sp b hb) hn,hl.2.2⟩
   ·exact ac2 hp o v vs x e r h
  ·cases h
 cases o with
 |fz t=>
  simp only[Gf]at h;have hf:=wY v M hp;generalize cr M v=z at h hf;obtain⟨e1,M1⟩:=z;simp only at h hf;split at h
  ·rename_i y hy;cases h;exact⟨p,λ_=>False,hf,λb=>ak,λb hb=>hb.elim,by simp only[Rel];exact mW _ t vs x (hf.c _ _ r) hy⟩
  ·cases h
 |p a b|sl a|pt a|mp _ _|op _=>exact key h
theorem Rz(hB:TabOk P B):(rs:List ResultVar)->(qs:gH)->(p:Ow)->(env:Env)->(M:Mem)->(y:bY qs)->Hp F p M w->(∀t,ae p.β M (Imm F p M w) w (gt env t) (a.tmps.getD t undef))->xQ B env M rs qs=some y->
  ∃us p' M',∃S:Nat->Prop,(rs.mapM (BX a.tmps)).run P w=.ok us w/\Hp F p' M' w/\cE (Imm F p M w) (Imm F p' M' w) w w/\(∀b,p.L b->p'.L b)/\(∀b,S b->p'.L b)/\(∀b,S b->¬p.L b)/\cp (Imm F p' M' w) w qs y S us
 |[],[],p,env,M,y,hp,hs,h=>by exact⟨[],p,M,λ_=>False,rfl,hp,cE.refl _ _,λb hb=>hb,λb hb=>hb.elim,λb hb=>hb.elim,by simp only[cp]⟩
 |[],_::_,p,env,M,y,hp,hs,h|_::_,[],p,env,M,y,hp,hs,h=>by simp[xQ]at h
 |r::rs,q::qs,p,env,M,y,hp,hs,h=>by
  simp only[xQ]at h;split at h
  ·rename_i v hv
   cases hc:fP (dS q.1 v)with
   |false=>rw[hc]at h;cases h
   |true=>
    rw[hc]at h;simp only[aD]at h;split at h
    ·rename_i x e M1 ho;split at h
     ·rename_i z hz;cases h;obtain⟨u,u1,u2⟩:=JM (P:=P) (a:=a) hB hp hs r v hv;obtain⟨vs,g1,g2,g3⟩:=Rw hp u2 hc;obtain⟨p1,S,t1,t2,t3,t4⟩:=Re hp q.2 (dS q.1 v) vs x e g3 ho;obtain⟨us,p2,M2,S2,k1,k2,k3,k4,k5,k6,k7⟩:=Rz hB rs qs p1 (eh env e) M1 z t1.hp (λt=>by rw[kV];exact t1.s _ _ (hs t)) hz;refine⟨u::us,p2,M2,λb=>S b\/S2 b,?_,k2,t1.keep.trans k3,λb hb=>k4 b ((t2 b).2 (.inl hb)),λb hb=>hb.elim (λh=>k4 b ((t2 b).2 (.inr h))) (k5 b),λb hb=>hb.elim (t3 b) (λh hL=>k6 b h ((t2 b).2 (.inl hL))),?_⟩
      ·simp only[C0,fW,u1,il,k1,lD]
      ·simp only[cp];exact⟨u,us,vs,S,S2,rfl,g1,g2,λb hb=>.inl hb,λb hb=>.inr hb,λb hb hb'=>k6 b hb' ((t2 b).2 (.inr hb)),Rel.keep k3 _ _ _ _ (λ_ _=>rfl) t4,k7⟩
     ·cases h
    ·cases h
  ·cases h
theorem x5:∀(l:cf)(i t:Nat),gt (js i l) t=if i<=t then (l[t-i]?).getD .any else .any
 |[],i,t=>by simp[js,gt]
 |x::r,i,t=>by
  simp only[js];rw[dZ];by_cases h:i=t
  ·subst h;simp
  ·rw[aj h,x5 r (Nat.succ i) t];by_cases h1:Nat.succ i<=t
   ·rw[am h1,am aa,show t-i=(t-Nat.succ i)+1 by omega];simp
   ·rw[aj h1,aj aa]
theorem uO{A Im:aT}{β:fD}{M:Mem}(hA:∀b,A b->Im b):(gs:gj)->(ts:ii)->(x:bq ts)->(us:aM)->d5 A w gs ts x us->(qs:List TypeId)->(m:Nat)->gs=ap (qs.map (λq=>(B.τ q).agg)) (iJ false m)->us.length=gs.length/\(dr B qs ts x).length=gs.length/\ab (okL ts x)/\
  ∀(i:Nat)(v:V)(u:bw),(dr B qs ts x)[i]? = some v->us[i]? = some u->ae β M Im w v u
 |[],[],x,us,h,qs,_,_=>by simp only[d5]at h;subst h;exact⟨rfl,by cases qs<;>rfl,trivial,λi v u hv=>by cases qs<;>simp[dr]at hv⟩
 |[],_::_,x,us,h,_,_,_|_::_,[],x,us,h,_,_,_=>by simp[d5]at h
 |g::gs,t::ts,x,us,h,[],m,e=>by
  simp only[d5]at h;obtain⟨u,us',vs,rfl,h1,h2,h3,h4⟩:=h
  cases m with
  |zero=>simp[ap,iJ]at e
  |succ m=>
   simp only[vX,ap,iJ,bG]at e;obtain⟨i1,i2,i3,i4⟩:=uO (β:=β) (M:=M) hA gs ts x.2 us' h4 [] m (by simpa only [vX,ap]using e.2);refine⟨by simp[i1],by simp[dr,i2],by simp only[okL,fO];exact⟨kN _ _ (ai.ok _ _ _ h3),i3⟩,λi v u' hv hu=>?_⟩
   cases i with
   |zero=>simp only[dr,iz,aI]at hv hu;subst hv;subst hu;have r:ac β M Im w (fy t x.1) vs:=ko t x.1 vs (ai.keep (λb hb=>⟨hA b hb,rfl⟩) _ _ _ h3);have:=h2 e.1;subst this;exact my r
   |succ i=>exact i4 i v u' (by simpa[dr]using hv) (by simpa using hu)
 |g::gs,t::ts,x,us,h,q::qs,m,e=>by
  simp only[d5]at h;obtain⟨u,us',vs,rfl,h1,h2,h3,h4⟩:=h;simp only[iN,ap,bG]at e;obtain⟨i1,i2,i3,i4⟩:=uO (β:=β) (M:=M) hA gs ts x.2 us' h4 qs m e.2;refine⟨by simp[i1],by simp[dr,i2],by simp only[okL,fO];exact⟨kN _ _ (ai.ok _ _ _ h3),i3⟩,λi v u' hv hu=>?_⟩
  cases i with
  |zero=>
   simp only[dr,iz,aI]at hv hu;subst hv;subst hu;have r:ac β M Im w (fy t x.1) vs:=ko t x.1 vs (ai.keep (λb hb=>⟨hA b hb,rfl⟩) _ _ _ h3);rw[←e.1]
   cases g with
   |true=>simp only[kI,aD,ae];exact⟨vs,h1 rfl,r⟩
   |false=>have:=h2 rfl;subst this;simp only[kI,bc];exact my r
  |succ i=>exact i4 i v u' (by simpa[dr]using hv) (by simpa using hu)
theorem TN (hB : TabOk P B)    (hf : P.funcs[f]? = some fn) (hb : fn.body = some c) (hn : (fn.name == "runtime.NumGoroutine") = false) (ct : Ct) (Q : bq ct.args -> bY ct.rt -> Prop)
  (hga:ct.ga=agL B fn) (hfl:orb ct.sh (nU ct.rt)=true) (hlen:ct.ga.length<=fn.ntmps)
  (h:∀x,ab (okL ct.args x)->ab (ct.pre x)->∀(F:Fr)(p:Ow)(a:Act)(w:aQ),ln P F->F.nt=fn.ntmps->F.fv=(λ_=>none)->St F p (js 0 (dr B (toL fn.params) ct.args x)) [] a w->c.wp P (iZ F (vK B (toL fn.results) ct.rt (Q x))) a w):∀(A:aT)(w:aQ)(us:aM)(x:bq ct.args),fS P A w->(∀b,A b->b<w.heap.size)->d5 A w ct.ga ct.args x us->ab (ct.pre x)->
  Calls P f us.toArray w λe w'=>∃r rs S,Q x r/\e=.returned (dG rs)/\Ext w w'/\(∀b,S b->w.heap.size<=b/\b<w'.heap.size)/\
   cp (λb=>b<w'.heap.size/\(ct.sh=true/\A b\/w.heap.size<=b)/\¬S b) w' ct.rt r S rs:=by
 intro Ab w us x hE hA hrel hpre;let F:Fr:=⟨w,w,Ab,λ_=>False,λ_=>False,fn.ntmps,λ_=>none,False⟩
 let p0:Ow:=⟨λ_=>undef,λ_ _=>False,λ_=>False⟩
 have himm:∀b,Ab b->Imm F p0 [] w b:=λb hb=>⟨hA b hb,.inl hb,λh=>h,λk hk=>by simp[bm,go]at hk⟩;obtain⟨l1,l2,l3,l4⟩:=uO (B:=B) (β:=p0.β) (M:=[]) himm ct.ga ct.args x us hrel (toL fn.params) fn.nfree hga
 have hst:St F p0 (js 0 (dr B (toL fn.params) ct.args x)) [] { tmps:=us.toArray++Array.replicate (fn.ntmps-us.toArray.size) undef,defers:=[] } w:=by
  refine⟨rfl,by simp[F];omega,λt v ht=>by simp[F]at ht,λb hb=>hb.elim,λb hb=>hb,λt=>?_,⟨λk o hk=>by simp[go]at hk,λk k' b _ hk=>by simp[bm,go]at hk,λk b hk=>by simp[bm,go]at hk,λb hb=>hb.elim,rfl,⟨rfl,bd _⟩,rfl,bd _,λb _ _=>rfl⟩⟩;rw[x5];simp only[fV,dA,vZ]
  cases hx:(dr B (toL fn.params) ct.args x)[t]? with
  |none=>simp only[pM,ae]
  |some v=>
   have ht:=(gp.1 hx).1;have hu:us[t]? = some us[t]:=bU aa;simp only[gA];have:(us.toArray++Array.replicate (fn.ntmps-us.toArray.size) undef).getD t undef=us[t]:=by rw[we,wd (by have:=(gp.1 hu).1;simpa using this)];simp[hu]
   rw[this];exact l4 t v _ hx hu
 refine zh hf hb (oC (λe a' w' he=>?_) (h x l3 hpre F p0 _ w (hE.of λb hb _=>⟨⟨hb,λh=>h⟩,rfl⟩) rfl rfl hst))
 have key:∀p env M,St F p env M a' w'->BP (xQ B env M (toL fn.results) ct.rt) (Q x)->(e=.normal\/e=.ret)->bodyPost P fn (λe w'=>∃r rs S,Q x r/\e=.returned (dG rs)/\Ext w w'/\(∀b,S b->w.heap.size<=b/\b<w'.heap.size)/\
   cp (λb=>b<w'.heap.size/\(ct.sh=true/\Ab b\/w.heap.size<=b)/\¬S b) w' ct.rt r S rs) e a' w':=by
  intro p env M hs hr hee;unfold BP at hr;split at hr
  ·rename_i r hres;obtain⟨rs,p',M',S,k1,k2,k3,k4,k5,k6,k7⟩:=Rz (P:=P) (a:=a') hB (toL fn.results) ct.rt p env M _ hs.hp hs.slots hres;rw[cK]at k1
   have hrun:(results fn a'.tmps).run P w'=.ok (dG rs) w':=by
    rw[A4,zj];simp only[fW,zk,k1,il,lD]
    match rs with
    |[]|[u]=>rfl
    |u::u'::r=>simp[dG]
   have hpost:∃r' rs' S,Q x r'/\Ending.returned (dG rs)=.returned (dG rs')/\Ext w w'/\(∀b,S b->w.heap.size<=b/\b<w'.heap.size)/\cp (λb=>b<w'.heap.size/\(ct.sh=true/\Ab b\/w.heap.size<=b)/\¬S b) w' ct.rt r' S rs':=by
    refine⟨r,rs,S,hr,rfl,⟨k2.os,k2.tape,k2.output,k2.size,λb hb=>k2.old b hb (λh=>h)⟩,λb hb=>⟨(k2.lim b (k5 b hb)).2.1.elim id (λh=>h.1.elim),(k2.lim b (k5 b hb)).1⟩,?_⟩;rw[eX,e9]at hfl;rcases hfl with hsh|hfl
    ·refine cp.keep (λb hb=>⟨hb.1,?_,λhS=>hb.2.2.1 (k5 b hS)⟩) _ _ _ _ k7;rcases hb.2.1 with h1|h1|h1
     ·exact .inl ⟨hsh,h1⟩
     ·exact h1.elim
     ·exact .inr h1
    ·exact P0 _ hfl _ _ _ k7
   rcases hee with rfl|rfl
   ·exact⟨hs.defers,_,hrun,hpost⟩
   ·exact⟨hs.defers,_,hrun,hpost⟩
  ·exact hr.elim
 cases e with
 |normal=>obtain⟨p,env,M,h1,h2⟩:=he;exact key p env M h1 h2 (.inl rfl)
 |ret=>obtain⟨p,env,M,h1,h2⟩:=he;exact key p env M h1 h2 (.inr rfl)
 |exit id|goto l=>obtain⟨p,env,M,h1,h2⟩:=he;exact h2.elim
 |panic ch|outgrown=>exact he.elim
theorem ae0 (hB : TabOk P B)    (hf : P.funcs[f]? = some fn) (hb : fn.body = some c) (hn : (fn.name == "runtime.NumGoroutine") = false) (ct : Ct) (hmu : ct.mu = none)
  (hga:ct.ga=agL B fn) (hfl:orb ct.sh (nU ct.rt)=true) (hlen:ct.ga.length<=fn.ntmps)
  (h:∀x,ab (okL ct.args x)->ab (ct.pre x)->∀(F:Fr)(p:Ow)(a:Act)(w:aQ),ln P F->F.nt=fn.ntmps->F.fv=(λ_=>none)->St F p (js 0 (dr B (toL fn.params) ct.args x)) [] a w->c.wp P (iZ F (vK B (toL fn.results) ct.rt (λr=>r=ct.res x))) a w):aN P f ct:=by
 refine⟨qA hf hb hn,?_⟩;simp only[hmu,tZ];intro Ab w us x hE hA hrel hpre cs;obtain⟨e,w',fr,⟨r,rs,S,hr,h1⟩,h2⟩:=TN hB hf hb hn ct (λx r=>r=ct.res x) hga hfl hlen h Ab w us x hE hA hrel hpre cs;subst hr;exact⟨e,w',fr,⟨rs,S,h1⟩,h2⟩
theorem ae2 (hΦ : fR P Φ) (hB : TabOk P B) (hmix : P.follows .mixedOrders = true)    (hf : P.funcs[f]? = some fn) (hb : fn.body = some c) (hn : (fn.name == "runtime.NumGoroutine") = false) (ct : Ct) (hmu : ct.mu = none) (A : Ann) (cut : Nat -> Nat)
  (hga:ct.ga=agL B fn) (hfl:orb ct.sh (nU ct.rt)=true) (hck:okC fn.ntmps cut c=true) (hlen:ct.ga.length<=fn.ntmps)
  (h:∀x,ab (okL ct.args x)->ab (ct.pre x)->evF B Φ cut fn c A ct x (λr=>r=ct.res x)):aN P f ct:=
 ae0 hB hf hb hn ct hmu hga hfl hlen λx h1 h2 F p a w hG e1 e2 hst=>k9 hΦ hB hmix cut c F hG A _ _ _ (by rw[e1];exact hck) (by rw[e2];exact q8 c) (h x h1 h2) p a w hst
def wD(P:cX)(r:TypeId->T->Bool):List Field->Nat->T->Bool
 |[],_,.u=>true
 |[f],off,d=>aO [Nat.beq f.offset off,Nat.beq (P.cellsOf f.type) d.size,r f.type d]
 |f::g::l,off,.p a b=>nob (aO [Nat.beq f.offset off,Nat.beq (P.cellsOf f.type) a.size,r f.type a]) (wD P r (g::l) (off+a.size) b)
 |_,_,_=>false
def si(P:cX):Nat->TypeId->T->Bool
 |0,_,_=>false
 |n+1,t,d=>match P.underlying t,d with
  |some (.int k),.int k'=>jp k k'
  |some .bool,.bool|some .string,.str=>true
  |some (.slice e),.sl d=>aO [si P n e d,Nat.beq (P.cellsOf e) d.size,neg (Nat.beq (P.bytesOf e) 0),neg (isZ d.size)]
  |some (.struct fs),d=>nob (Nat.beq (P.cellsOf t) d.size) (wD P (si P n) fs.toList 0 d)
  |_,_=>false
section
variable {enc:TypeId×Value->H}
theorem Ss{Im:aT}{r:TypeId->T->Bool}{cs:aM}:(l:List Field)->(off:Nat)->(d:T)->wD P r l off d=true->(cs.drop off).length=d.size->
  (∀f∈l,∀d',r f.type d'=true->∃y,ai Im w d' y ((cs.drop f.offset).take (P.cellsOf f.type)))->∃y,ai Im w d y (cs.drop off)
 |[],off,.u,_,hl,_=>⟨(),by simp only[ai];exact jR hl⟩
 |[f],off,d,h,hl,hf=>by
  have h':aO [Nat.beq f.offset off,Nat.beq (P.cellsOf f.type) d.size,r f.type d]=true:=by cases d<;>simpa only [wD]using h
  simp only[bH,bJ,bC,ao]at h';obtain⟨y,hy⟩:=hf f ak d h'.2.2;have e1:=cR h'.1;have e2:=cR h'.2.1;rw[e1,e2,fU aa]at hy;exact⟨y,hy⟩
 |f::g::l,off,.p a b,h,hl,hf=>by simp only[wD,aP,ao,bH,bJ,bC]at h;obtain⟨⟨h1,h2,h3⟩,h4⟩:=h;have e1:=cR h1;have e2:=cR h2;obtain⟨y,hy⟩:=hf f ak a h3;simp only[T.size,E9]at hl;obtain⟨z,hz⟩:=Ss (g::l) (off+a.size) b h4 (by rw[jw]at hl⊢;omega) (λf' hf'=>hf f' (by simp[cz]at hf'⊢;exact .inr hf'));rw[e1,e2]at hy;refine⟨(y,z),?_⟩;simp only[ai];refine⟨_,_,?_,hy,hz⟩;rw[←wn,jb]
 |[],_,.int _,h,_,_|[],_,.bool,h,_,_|[],_,.str,h,_,_|[],_,.p _ _,h,_,_|[],_,.sl _,h,_,_|[],_,.pt _,h,_,_|[],_,.fn _ _,h,_,_|[],_,.any,h,_,_|_::_::_,_,.int _,h,_,_|_::_::_,_,.bool,h,_,_|_::_::_,_,.str,h,_,_|_::_::_,_,.u,h,_,_|_::_::_,_,.sl _,h,_,_|_::_::_,_,.pt _,h,_,_|_::_::_,_,.fn _ _,h,_,_|_::_::_,_,.any,h,_,_=>by simp[wD]at h
theorem Oe{e:bF}:∀(l:List (DataW H)) (q:Nat->Bool),(DataW.weightsAll P e l).all q=true->∀d∈l,(d.weights P e).all q=true
 |[],q,_,d,hd=>by cases hd
 |x::l,q,h,d,hd=>by
  simp only[DataW.weightsAll,C8,ao]at h;rcases cz.1 hd with rfl|hd
  ·exact h.1
  ·exact Oe l q h.2 d hd
theorem NJ:∀(ts:List TypeId)(l:List (DataW H)) (q:Nat->Bool),(DataW.weightsEach P ts l).all q=true->∀(i:Nat) t d,ts[i]? = some t->l[i]? = some d->(d.weights P t).all q=true
 |[],_,q,_,i,t,d,ht,_=>by simp at ht
 |_::_,[],q,_,i,t,d,_,hd=>by simp at hd
 |t0::ts,x::l,q,h,i,t,d,ht,hd=>by
  simp only[DataW.weightsEach,C8,ao]at h
  cases i with
  |zero=>simp at ht hd;subst ht;subst hd;exact h.1
  |succ i=>exact NJ ts l q h.2 i t d (by simpa using ht) (by simpa using hd)
theorem adb:∀(n:Nat)(t:bF)(d:T),si P n t d=true->∀(fuel:Nat)(cs:aM)(x:DataW H×List MemPlace),DataW.trod enc P w base spare held fuel t cs=some x->(x.1.weights P t).all (·<=reachBytes)=true->
  ∃y:d.den,ai (λb=>b<w.heap.size) w d y cs:=by
 intro n
 induction n with
 |zero=>intro t d h;simp[si]at h
 |succ n ih=>
  intro t d h fuel cs x hx hw;unfold si at h;split at h
  ·rename_i k k' hu;have:=nI h;subst this;obtain⟨m,rfl,rfl,hwf⟩:=DataW.trod_int hu hx;exact⟨m,by simp only[ai,aL];simpa[Lit.wf,inK]using hwf⟩
  ·rename_i hu;obtain⟨b,rfl,rfl⟩:=DataW.trod_bool hu hx;exact⟨b,by simp only[ai]⟩
  ·rename_i hu;obtain⟨s,rfl,rfl,hs⟩:=DataW.trod_string hu hx;have hsz:s.size<=reachBytes:=by simpa[DataW.weights]using hw
   exact⟨s,by simp only[ai,aL];exact c8 hsz aH⟩
  ·rename_i e d' hu;simp only[bH,bJ,bC,ao]at h;obtain⟨h1,h2,h3,h4⟩:=h;have e2:=cR h2;rcases DataW.trod_slice hu hx with⟨rfl,rfl⟩|⟨a,len,cap,elems,rest,m,_,rfl,rfl,hb,hl,hm,hlen,hel,_,_⟩
   ·exact⟨[],by simp only[ai];exact⟨none,0,rfl,⟨fV _,bd _⟩,λ_=>⟨rfl,rfl⟩,λa ha=>by cases ha⟩⟩
   ·have hpos:0<d'.size:=by
     cases hz:d'.size with
     |zero=>rw[hz]at h4;simp[isZ]at h4
     |succ _=>omega
    have hbpos:0<P.bytesOf e:=by
     cases hz:P.bytesOf e with
     |zero=>rw[hz]at h3;simp at h3
     |succ _=>omega
    simp only[DataW.weights,hu,zm,C8,ao,db,cC]at hw;obtain⟨w1,w2,w3⟩:=hw;have hnb:len<=nb:=by have h5:elems.length+rest.length<=(elems.length+rest.length)*P.bytesOf e:=C2 _ hbpos;simp only[reachBytes]at w1;unfold nb;omega
    have hall:∀i,i<len->∃y:d'.den,∃csi,w.cells? base (a.add (i*d'.size)) d'.size=some csi/\ai (λb=>b<w.heap.size) w d' y csi:=λi hi=>by have hq:=hel i hi;rw[e2]at hq;have hei:elems[i]? = some elems[i]:=bU aa;rw[hei]at hq;obtain⟨csi,q1,q2⟩:=Option.bind_eq_some_iff.1 hq;obtain⟨y,hy⟩:=ih e d' h1 m csi _ q2 (Oe _ _ w2 _ (List.mem_map_of_mem (zd aa)));exact⟨y,csi,q1,hy⟩
    classical
    let f:Nat->d'.den:=λi=>if hi:i<len then (hall i hi).choose else d'.dflt
    refine⟨(List.range len).map f,?_⟩;have hlen':((List.range len).map f).length=len:=ak
    simp only[ai];refine⟨some a,cap,by rw[hlen'],⟨by rw[hlen'];exact hnb,by rw[hlen'];exact hl⟩,(λh=>nomatch h),λa' ha' hp=>?_⟩;cases ha';rw[hlen']at hp;obtain⟨y0,cs0,c1,c2⟩:=hall 0 hp;obtain⟨g1,g2,g3⟩:=World.cells?_some c1;have hc0:=g3 0 hpos;have hl0:0<cs0.length:=aa
    rw[bU hl0]at hc0;have hadd0:(a.add (0*d'.size)).add 0=a:=by rw[Nat.zero_mul];unfold Addr.add;simp
    rw[hadd0]at hc0
    have hspot:a.spot=none:=by
     unfold World.cell? at hc0;split at hc0
     ·split at hc0
      ·cases hc0
      ·rename_i hs;simpa using hs
     ·cases hc0
    have hblk:a.block<w.heap.size:=by
     unfold World.cell? at hc0;split at hc0
     ·rename_i hb;exact (cN.1 hb).1
     ·cases hc0
    refine⟨hspot,hblk,λi y hy=>?_⟩;rw[gJ]at hy;by_cases hi:i<len
    ·rw[n6 hi]at hy;simp only[fq,aI]at hy;have hf:f i=(hall i hi).choose:=by simp only[f,dif_pos hi]
     rw[hf]at hy;obtain⟨csi,q1,q2⟩:=(hall i hi).choose_spec;rw[hy]at q2;obtain⟨r1,r2,r3⟩:=World.cells?_some q1;refine⟨csi,λj u hu'=>?_,q2⟩;have hj:j<d'.size:=by have:=(gp.1 hu').1;omega
     have:=r3 j hj;obtain⟨b,o,sp⟩:=a;simp only at hspot;subst hspot;rw[rX,rX]at this;rw[this];exact hu'
    ·rw[ja (by simpa using hi)]at hy;cases hy
  ·rename_i _ fs hu;simp only[aP,ao]at h;have e1:=cR h.1;obtain⟨xs,m,_,rfl,hl,hxl,hf⟩:=DataW.trod_struct hu hx;simp only[DataW.weights,hu]at hw
   have:=Ss (w:=w) (Im:=λb=>b<w.heap.size) (cs:=cs) fs.toList 0 _ h.2 (by simp only[List.drop_zero];omega) (λf hfm d' hd'=>by
    obtain⟨i,hi,rfl⟩:=jP hfm;have hfi:fs[i]? = some fs[i]:=by simp at hi;simp[hi]
    have hq:=hf i _ hfi;have hi':i<xs.length:=by simp at hi;omega
    rw[bU hi']at hq;have hww:=NJ _ _ _ hw i fs[i].type xs[i].1 (by simp at hi;simp[hi]) (by simp[hi']);simpa using ih _ d' (by simpa using hd') m _ _ hq hww)
   simpa only [List.drop_zero]using this
  ·cases h
end
def TM(args:ii)(ga:gj):Ct:=⟨args,ga,λ_=>[],[(false,.fz .bool)],λ_=>(true,()),false,none⟩
theorem law_of_ct(h:aN P f (TM args ga)){x:bq args}(hE:fS P (λb=>b<w.heap.size) w)(hr:d5 (λb=>b<w.heap.size) w ga args x vs):
  Calls P f vs.toArray w λe w'=>e=.returned (.bool true)/\Below w.heap.size w w':=
 (h.2 (λb=>b<w.heap.size) w vs x hE (λ_ hb=>hb) hr trivial).mono λe w' ⟨rs,S,he,hx,_,hres⟩=>by simp only[TM,cp]at hres;obtain⟨u,us',us,S1,S2,rfl,_,g2,_,_,_,hrel,rfl⟩:=hres;have:=g2 trivial;subst this;simp only[Rel,ai,bG,az]at hrel;subst hrel;exact⟨he,hx.os,hx.tape.t,hx.output,hx.size,λk hk=>hx.old k hk⟩
def eC(f:Func):Code:=match f.body with|some c=>c|none=>.skip
def lkp:List (Nat×Ct)->FuncId->Option Ct
 |[],_=>none
 |(k,c)::r,f=>bif Nat.beq k f then some c else lkp r f
theorem aR:fR P (lkp []):=λf ct h=>by cases h
theorem au{c:Ct}(h:aN P k c)(hr:fR P (lkp r)):fR P (lkp ((k,c)::r)):=by
 intro f ct hf;simp only[lkp]at hf
 cases hb:Nat.beq k f with
 |true=>rw[hb]at hf;have:=cR hb;subst this;cases hf;exact h
 |false=>rw[hb]at hf;exact hr f ct hf
def fJ:List (Nat×Nat)->Nat->Nat
 |[],_=>0
 |(k,c)::r,f=>bif Nat.beq k f then c else fJ r f
theorem bt{body:S->(S->Prop)->Prop}(R:S->Prop)(μ:S->Nat)(h:∀s next,R s->(∀s',R s'->μ s'<μ s->next s')->body s next){s:S}(hs:R s):aK body s:=by
 have key:∀n s,R s->μ s<n->jk body n s:=by
  intro n
  induction n with
  |zero=>intro s _ h;omega
  |succ n ih=>intro s hs hn;exact h s _ hs λs' hs' hl=>ih s' hs' aa
 exact⟨μ s+1,key _ s hs (ww _)⟩
theorem eV(P:Int->Prop)(hn:i0<=n)(h0:P i0)(hs:∀i next,i0<=i->i<n->P i->(P (i+1)->next ((i+1,()),()))->body ((i,()),()) next)(he:∀next,P n->body ((n,()),()) next):aK body ((i0,()),()):=by
 refine bt (λs=>i0<=s.1.1/\s.1.1<=n/\P s.1.1) (λs=>(n-s.1.1).toNat) ?_ ⟨dB _,hn,h0⟩;rintro⟨⟨i,_⟩,_⟩ next ⟨h1,h2,h3⟩ hnx
 dsimp only at h1 h2 h3 hnx;by_cases e:i=n
 ·subst e;exact he next h3
 ·exact hs i next h1 aa h3 λh4=>hnx _ ⟨an,an,h4⟩ an
theorem PF{x:α}{body:(Unit×(Int×Unit))×(α×Unit)->((Unit×(Int×Unit))×(α×Unit)->Prop)->Prop}(P:Int->Prop)(hn:i0<=n)(h0:P i0)(hs:∀i next,i0<=i->i<n->P i->(P (i+1)->next (((),(i+1,())),(x,())))->body (((),(i,())),(x,())) next)(he:∀next,P n->body (((),(n,())),(x,())) next):aK body (((),(i0,())),(x,())):=by
 refine bt (λs=>s.2.1=x/\i0<=s.1.2.1/\s.1.2.1<=n/\P s.1.2.1) (λs=>(n-s.1.2.1).toNat) ?_ ⟨rfl,dB _,hn,h0⟩;rintro⟨⟨_,i,_⟩,y,_⟩ next ⟨hy,h1,h2,h3⟩ hnx
 dsimp only at hy h1 h2 h3 hnx;subst hy;by_cases e:i=n
 ·subst e;exact he next h3
 ·exact hs i next h1 aa h3 λh4=>hnx _ ⟨rfl,an,an,h4⟩ an
theorem tE(l:List α)(d:α)(h0:0<=i)(h1:i<l.length):l.drop i.toNat=l.getD i.toNat d::l.drop (i+1).toNat:=by
 have h:i.toNat<l.length:=aa
 rw[zf h,show (i+1).toNat=i.toNat+1 from by omega,br,bU h];rfl
theorem ve(l:List α)(h1:(l.length:Int)<=i):l.drop i.toNat=[]:=C5 aa
theorem gE(l:List α)(d:α)(h0:0<=i)(h1:i<l.length):l.take (i+1).toNat=l.take i.toNat++[l.getD i.toNat d]:=by
 have h:i.toNat<l.length:=aa
 rw[show (i+1).toNat=i.toNat+1 from by omega,List.take_succ_eq_append_getElem h,br,bU h];rfl
theorem lQ(l:List α)(h1:(l.length:Int)<=i):l.take i.toNat=l:=fU aa
theorem bX(l:List α)(d:α)(h0:0<=i)(h1:i<l.length):l.getD i.toNat d∈l:=by
 have h:i.toNat<l.length:=aa
 rw[br,bU h];exact zd h
theorem cF:inK .i64 n<->-9223372036854775808<=n/\n<=9223372036854775807:=by simp[inK,IntKind.min,IntKind.max,IntKind.signed,IntKind.bits]
theorem aB{p:Prop}(h:p:=by rw[cF];(try dsimp only);omega):p:=h
theorem ce:nb=140737488355328:=rfl
theorem aJ(h1:b=true->x)(h2:b=false->y):cnd b x y:=⟨h1,h2⟩
theorem aE{p:Prop}[Decidable p](h1:p->x)(h2:¬p->y):cnd (decide p) x y:=⟨λh=>h1 (ze h),λh=>h2 (of_decide_eq_false h)⟩
theorem bZ{k:S->Prop}{f:(S->Prop)->Prop}(R:S->Prop)(hk:∀s,R s->k s)(hf:∀k',(∀s,R s->k' s)->f k'):bK k f:=hf k hk
theorem aeg    (hΦ : fR P Φ) (hB : TabOk P B) (hmix : P.follows .mixedOrders = true)    (hf : P.funcs[f]? = some fn) (hb : fn.body = some c) (hn : (fn.name == "runtime.NumGoroutine") = false) (ct : Ct) (hmu : ct.mu = none) (A : Ann) (cut : Nat -> Nat)
  (hga:ct.ga=agL B fn) (hfl:orb ct.sh (nU ct.rt)=true) (hck:okC fn.ntmps cut c=true) (hlen:ct.ga.length<=fn.ntmps)
  (W:bq ct.args->(bY ct.rt->Prop)->Prop) (hw:∀x K,evF B Φ cut fn c A ct x K=W x K) (hm:∀x,ab (okL ct.args x)->ab (ct.pre x)->W x (λr=>r=ct.res x)):aN P f ct:=
 ae2 hΦ hB hmix hf hb hn ct hmu A cut hga hfl hck hlen λx h1 h2=>(hw x _).mpr (hm x h1 h2)
open Go.WideShapes
def LK(P:cX)(t:bF):Bool:=match P.underlying t with|some (.struct _)=>true|_=>false
theorem open_arg{enc:TypeId×Value->H}{b1:Nat}{v:bw}{dd:DataW H}(n:Nat)(d:T)(g:bo)(hty:si P n t d=true)(hg:LK P t=g)(hv:Value.okWide P W .any b1 t v)(hk:DataW.Trod enc P W base spare held t v dd ps)(hw:(dd.weights P t).all (·<=reachBytes)=true):
  ∃(y:d.den)(vs:aM),(g=true->v=.agg vs.toArray)/\(g=false->vs=[v])/\ai (λb=>b<W.heap.size) W d y vs:=by
 obtain⟨fuel,hf⟩:=hk;obtain⟨y,hy⟩:=adb n t d hty fuel _ _ hf hw;refine⟨y,v.cells.toList,λh=>?_,λh=>?_,hy⟩
 ·subst hg;simp only[LK]at h;split at h
  ·rename_i fs hu;obtain⟨cs,rfl,_⟩:=okWide_struct hu hv;simp[Value.cells]
  ·cases h
 ·subst hg
  cases n with
  |zero=>simp[si]at hty
  |succ n=>
   unfold si at hty;split at hty
   ·rename_i k k' hu;obtain⟨m,rfl⟩:=okWide_int hu hv;rfl
   ·rename_i hu;obtain⟨m,rfl⟩:=okWide_bool hu hv;rfl
   ·rename_i hu;obtain⟨m,rfl⟩:=okWide_string hu hv;rfl
   ·rename_i e d' hu;obtain⟨a,l,c,rfl⟩:=okWide_slice hu hv;rfl
   ·rename_i fs hu;simp[LK,hu]at h
   ·cases hty
structure Inn (w:aQ) (j j':Nat) (N:Mem) (v:V) (vs:aM) (S:aT) (β:fD) (σ:jN):Prop where
 le:j<=j'
 keys:∀k,bm N k->∃i,j<=i/\i<j'/\k=cid 9000 i
 objs:∀(Im:aT) k ob,go N k=some ob->Rel Im w ob.o ob.x (σ k) [β k]
 sub:∀k b,bm N k->σ k b->S b
 dis:∀k k' b,k≠k'->bm N k->bm N k'->σ k b->¬σ k' b
 val:∀(Im:aT)(β':fD)(M':Mem),(∀k,bm N k->β' k=β k/\go M' k=go N k)->ac β' M' Im w v vs
def g7(W:Wt):Ct:=⟨[],[],λ_=>[],[],λ_=>(),false,some (.w W)⟩
theorem kq{α:Type}(u:α):∀(i:Nat)(l:List α),(cn i u l).length=l.length+1
 |0,l|i+1,[]=>rfl
 |i+1,x::l=>by simp only[cn,aX];rw[kq u i l]
theorem qP{α:Type}(u:α):∀(i:Nat)(l:List α),i<=l.length->∀t,(cn i u l)[t]? = if t<i then l[t]? else if t=i then some u else l[t-1]?
 |0,l,_,0|0,l,_,t+1=>by simp[cn]
 |i+1,[],h,_=>by simp at h
 |i+1,x::l,h,0=>by simp[cn]
 |i+1,x::l,h,t+1=>by
  simp only[cn,lC];rw[qP u i l (by simpa using h) t];rcases Nat.lt_trichotomy t i with h1|h1|h1
  ·rw[am h1,am (Nat.succ_lt_succ h1)]
  ·rw[aj aa,am h1,aj aa,am aa]
  ·rw[aj aa,aj aa,aj aa,aj aa];obtain⟨s,rfl⟩:∃s,t=s+1:=⟨t-1,aa⟩;simp
theorem Bo{f:TypeId->Bool}:∀(i:Nat)(ag:gj)(ps:List TypeId)(n:Nat),i<=ag.length->cn i false ag=ap (ps.map f) (iJ false n)->∃m,ag=ap ((fh i ps).map f) (iJ false m)
 |0,ag,[],0,_,h=>by simp[cn,ap,iJ]at h
 |0,ag,[],n+1,_,h=>by simp only[cn,vX,ap,iJ,bG,aL]at h;exact⟨n,by simpa[fh,pkN,ap]using h⟩
 |0,ag,q::qs,n,_,h=>by simp only[cn,iN,ap,bG]at h;exact⟨n,by simpa[fh,pkN]using h.2⟩
 |i+1,[],_,_,hi,_=>by simp at hi
 |i+1,b::ag,[],0,_,h=>by simp[cn,ap,iJ]at h
 |i+1,b::ag,[],n+1,hi,h=>by simp only[cn,vX,ap,iJ,bG]at h;obtain⟨m,e⟩:=Bo (f:=f) i ag [] n (by simpa using hi) (by simpa[ap]using h.2);refine⟨m+1,?_⟩;rw[h.1,e];cases i<;>simp[fh,pkN,ap,iJ]
 |i+1,b::ag,q::qs,n,hi,h=>by
  simp only[cn,iN,ap,bG]at h;obtain⟨m,e⟩:=Bo i ag qs n (by simpa using hi) h.2;refine⟨m,?_⟩;rw[h.1,e];unfold fh;simp only[pkN]
  cases pkN i qs with
  |none|some q=>simp[ap]
def ld:O->Nat->V
 |.pt _,k=>.ad k [.de]
 |_,k=>.ref k []
def vj(B:Tab)(env:Env)(M:Mem):List ResultVar->(rs:gH)->Option (bY rs×List Ev×Mem)
 |[],[]=>some ((),[],M)
 |r::rs,q::qs=>(match y4 B env M r with
  |some v=>bif fP (dS q.1 v)then (match Gf M q.2 (dS q.1 v)with
   |some (x,e,M')=>(match vj B (eh env e) M' rs qs with
    |some (y,e',M'')=>some ((x,y),ap e e',M'')
    |none=>none)
   |none=>none)else none
  |none=>none)
 |_,_=>none
def vk(B:Tab)(rs:List ResultVar)(W:Wt)(K:W.o.strip.den->bY W.rt->Prop)(env:Env)(M:Mem):Prop:=
 match vj B env M rs W.rt with
 |some (r,e,M')=>(match pn ((gt env W.i).evs e)with
  |some k=>(match go M' k with
   |some ob=>(match wkO ob W.o with
    |some z=>K z r
    |none=>False)
   |none=>False)
  |none=>False)
 |none=>False
def yI(B:Tab)(rs:List ResultVar)(W:Wt)(K:W.o.strip.den->bY W.rt->Prop):Ex->Env->Mem->Prop
 |.ex _,_,_|.go _,_,_=>False
 |.nm,env,M|.rt,env,M=>vk B rs W K env M
def pH(B:Tab)(Φ:du)(cut:ju)(fn:Func)(c:jv)(A:Ann)(W:Wt)(x:W.o.strip.den)(y:bq W.as)(K:W.o.strip.den->bY W.rt->Prop):Prop:=ev B Φ cut c A (yI B (toL fn.results) W K) (js 0 (cn W.i (ld W.o (cid 9000 0)) (dr B (fh W.i (toL fn.params)) W.as y))) [(cid 9000 0,⟨W.o,x⟩)]
theorem DU(hB:TabOk P B):(rs:List ResultVar)->(qs:gH)->(p:Ow)->(env:Env)->(M:Mem)->(y:bY qs)->(e:bM)->(M':Mem)->Hp F p M w->(∀t,ae p.β M (Imm F p M w) w (gt env t) (a.tmps.getD t undef))->vj B env M rs qs=some (y,e,M')->
  ∃us p',∃S:Nat->Prop,(rs.mapM (BX a.tmps)).run P w=.ok us w/\Tr F p M w e p' M' w/\(∀b,p.L b->p'.L b)/\(∀b,S b->p'.L b)/\(∀b,S b->¬p.L b)/\cp (Imm F p' M' w) w qs y S us
 |[],[],p,env,M,y,e,M',hp,hs,h=>by simp only[vj,aI,bE]at h;obtain⟨_,rfl,rfl⟩:=h;exact⟨[],p,λ_=>False,rfl,Tr.refl hp,λb hb=>hb,λb hb=>hb.elim,λb hb=>hb.elim,by simp only[cp]⟩
 |[],_::_,p,env,M,y,e,M',hp,hs,h|_::_,[],p,env,M,y,e,M',hp,hs,h=>by simp[vj]at h
 |r::rs,q::qs,p,env,M,y,e,M',hp,hs,h=>by
  simp only[vj]at h;split at h
  ·rename_i v hv
   cases hc:fP (dS q.1 v)with
   |false=>rw[hc]at h;cases h
   |true=>
    rw[hc]at h;simp only[aD]at h;split at h
    ·rename_i x e1 M1 ho;split at h
     ·rename_i z e2 M2 hz;cases h;obtain⟨u,u1,u2⟩:=JM (P:=P) (a:=a) hB hp hs r v hv;obtain⟨vs,g1,g2,g3⟩:=Rw hp u2 hc;obtain⟨p1,S,t1,t2,t3,t4⟩:=Re hp q.2 (dS q.1 v) vs x e1 g3 ho;obtain⟨us,p2,S2,k1,k3,k4,k5,k6,k7⟩:=DU hB rs qs p1 (eh env e1) M1 z e2 M' t1.hp (λt=>by rw[kV];exact t1.s _ _ (hs t)) hz;refine⟨u::us,p2,λb=>S b\/S2 b,?_,t1.trans k3,λb hb=>k4 b ((t2 b).2 (.inl hb)),λb hb=>hb.elim (λh=>k4 b ((t2 b).2 (.inr h))) (k5 b),λb hb=>hb.elim (t3 b) (λh hL=>k6 b h ((t2 b).2 (.inl hL))),?_⟩
      ·simp only[C0,fW,u1,il,k1,lD]
      ·simp only[cp];exact⟨u,us,vs,S,S2,rfl,g1,g2,λb hb=>.inl hb,λb hb=>.inr hb,λb hb hb'=>k6 b hb' ((t2 b).2 (.inr hb)),Rel.keep k3.keep _ _ _ _ (λ_ _=>rfl) t4,k7⟩
     ·cases h
    ·cases h
  ·cases h
theorem wt_q (hΦ : fR P Φ) (hB : TabOk P B) (hmix : P.follows .mixedOrders = true)    (hf : P.funcs[f]? = some fn) (hb : fn.body = some c) (hn : (fn.name == "runtime.NumGoroutine") = false) (W : Wt) (pr : W.o.strip.den -> bq W.as -> Prop) (Q : W.o.strip.den -> bq W.as -> W.o.strip.den -> bY W.rt -> Prop) (A : Ann) (cut : Nat -> Nat)
  (hro:lf W.o=true) (hi:W.i<=W.ag.length) (hga:cn W.i false W.ag=agL B fn) (hck:okC fn.ntmps cut c=true) (hlen:W.ag.length+1<=fn.ntmps) (hnw:noW [W.i] c=true)
  (h:∀x y,ab (W.o.strip.oks x)->ab (okL W.as y)->pr x y->pH B Φ cut fn c A W x y (Q x y)) :
  ∀(A:aT)(w:aQ)(u:bw)(x:W.o.strip.den)(us:aM)(y:bq W.as)(S:aT),fS P A w->(∀b,A b->b<w.heap.size)->(∀b,S b->b<w.heap.size/\¬A b)->
  Rel (λb=>A b) w W.o x S [u]->d5 A w W.ag W.as y us->pr x y->
  Calls P f (cn W.i u us).toArray w λe w'=>∃z r rs R S',Q x y z r/\e=.returned (dG rs)/\ExtS w w' S/\(∀b,R b->w.heap.size<=b/\b<w'.heap.size)/\(∀b,S' b->(S b\/w.heap.size<=b/\b<w'.heap.size)/\¬R b)/\
   Rel (λb=>b<w'.heap.size/\(A b\/S b\/w.heap.size<=b)/\¬S' b/\¬R b) w' W.o z S' [u]/\
   cp (λb=>b<w'.heap.size/\(A b\/S b\/w.heap.size<=b)/\¬S' b/\¬R b) w' W.rt r R rs:=by
 intro Ab w u x us y S hE hAlt hSlt hr hargs hpre;let a0:Act:={ tmps:=(cn W.i u us).toArray++Array.replicate (fn.ntmps-(cn W.i u us).toArray.size) undef,defers:=[] }
 have hoks:ab (W.o.strip.oks x):=by have h1:=Rel.frz (Im':=λ_=>True) (λ_ _=>trivial) W.o x S [u] (λ_ _=>trivial) hr;have h2:=kN _ _ (ai.ok _ _ _ h1);exact h2
 let F:Fr:=⟨w,w,Ab,S,λ_=>False,fn.ntmps,jI (λ_=>none) [W.i] a0,False⟩
 let p0:Ow:=⟨λ_=>u,λ_=>S,λ_=>False⟩
 have hkk:gid=cid 9000 0:=aH
 replace h:=λh1 h2=>h x y h1 h2 hpre;unfold pH at h;generalize cid 9000 0=kk at hkk h;generalize hM0:([(kk,⟨W.o,x⟩)]:Mem)=M0;have hg0:go M0 kk=some ⟨W.o,x⟩:=by rw[←hM0,cJ,am rfl]
 have hlive:∀k,bm M0 k->k=kk:=λk hk=>by
  unfold bm at hk;rw[←hM0,cJ]at hk;split at hk
  ·rename_i e;exact e.symm
  ·simp[go]at hk
 have himm:∀b,Ab b->Imm F p0 M0 w b:=λb hb=>⟨hAlt b hb,.inl hb,λh=>h,λk hk hs=>(hSlt b hs).2 hb⟩;obtain⟨m,e⟩:=Bo W.i W.ag (toL fn.params) fn.nfree hi hga;obtain⟨l1,l2,l3,l4⟩:=uO (B:=B) (β:=p0.β) (M:=M0) himm W.ag W.as y us hargs (fh W.i (toL fn.params)) m e;have he:=h hoks l3;rw[hM0]at he;have hsz:a0.tmps.size=fn.ntmps:=by simp[a0,kq];omega
 have hget:∀t,t<(cn W.i u us).length->a0.tmps.getD t undef=(cn W.i u us).getD t undef:=λt ht=>by simp only[a0];rw[we,wd (by simpa using ht)];simp[br]
 have hrel0:Rel (Imm F p0 M0 w) w W.o x S [u]:=Rel.keep (λb hb=>⟨himm b hb,rfl⟩) _ _ _ _ (λ_ _=>rfl) hr
 have hp0:Hp F p0 M0 w:=⟨λk ob hk=>by have:=hlive k (bP hk);subst this;rw[hg0]at hk;cases hk;exact hrel0,λk k' b hne hk hk'=>absurd ((hlive k hk).trans (hlive k' hk').symm) hne,
  λk b hk hs=>⟨(hSlt b hs).1,.inl ⟨by rw[hlive k hk,hkk];exact bd _,hs⟩⟩,λb hb=>hb.elim,rfl,⟨rfl,bd _⟩,rfl,bd _,λb _ _=>rfl⟩
 have hst:St F p0 (js 0 (cn W.i (ld W.o kk) (dr B (fh W.i (toL fn.params)) W.as y))) M0 a0 w:=by
  refine⟨rfl,hsz,λt v ht=>?_,λb hb=>hb.elim,λb hb=>hb,λt=>?_,hp0⟩
  ·simp only[F,jI]at ht
   cases hm:hY t [W.i]with
   |true=>rw[hm]at ht;simpa using ht
   |false=>rw[hm]at ht;cases ht
  ·rw[x5];simp only[fV,dA,vZ];have hil:W.i<=us.length:=aa
   have hil2:W.i<=(dr B (fh W.i (toL fn.params)) W.as y).length:=aa
   have hgu:∀t,(cn W.i u us).getD t undef=if t<W.i then us.getD t undef else if t=W.i then u else us.getD (t-1) undef:=λt=>by
    rw[br,qP u W.i us hil t];split
    ·rw[br]
    ·split
     ·rfl
     ·rw[br]
   have hoth:∀t s,s<us.length->t<(cn W.i u us).length->(cn W.i u us).getD t undef=us.getD s undef->∀v,(dr B (fh W.i (toL fn.params)) W.as y)[s]? = some v->ae p0.β M0 (Imm F p0 M0 w) w v (a0.tmps.getD t undef):=λt s hs ht he v hx=>by
    have hu:us[s]? = some us[s]:=bU hs;rw[hget t ht,he];have:us.getD s undef=us[s]:=by simp[br,hu]
    rw[this];exact l4 s v _ hx hu
   have hlen2:(dr B (fh W.i (toL fn.params)) W.as y).length=us.length:=aa
   rw[qP _ W.i _ hil2 t];by_cases h1:t<W.i
   ·rw[am h1]
    cases hx:(dr B (fh W.i (toL fn.params)) W.as y)[t]? with
    |none=>simp only[pM,ae]
    |some v=>have ht:=(gp.1 hx).1;simp only[gA];exact hoth t t aa (by rw[kq];omega) (by rw[hgu,am h1]) v hx
   rw[aj h1];by_cases h2:t=W.i
   ·subst h2;rw[am rfl,hget W.i (by rw[kq];omega),hgu,aj (oA _),am rfl];simp only[gA]
    have key:∀(o:O)(z:o.strip.den),lf o=true->go M0 kk=some ⟨o,z⟩->Rel (Imm F p0 M0 w) w o z S [u]->ae p0.β M0 (Imm F p0 M0 w) w (ld o kk) u:=λo z ho hgo hrl=>by
     cases o with
     |pt o1=>simp only[ld,ae,ac];refine⟨u,rfl,?_⟩;simp only[Rel]at hrl;obtain⟨bb,us1,ty',S1,r1,_⟩:=hrl;simp only[bG,az]at r1;exact⟨_,cellsOf w bb 0 o1.size,bb,0,hgo,by simp only[gok],by simp only[get];exact⟨_,rfl⟩,by simp only[bV],by simp only[p0,r1,res],r1⟩
     |sl e=>simp only[ld,ae,ac];exact⟨_,none,hgo,by simp only[gok],⟨_,by simp only[get];rfl⟩,by simp only[res,p0]⟩
     |fz t|p a b|mp e e'|op e=>cases ho
    exact key W.o x hro hg0 hrel0
   ·rw[aj h2]
    cases hx:(dr B (fh W.i (toL fn.params)) W.as y)[t-1]? with
    |none=>simp only[pM,ae]
    |some v=>have ht:=(gp.1 hx).1;simp only[gA];exact hoth t (t-1) aa (by rw[kq];omega) (by rw[hgu,aj h1,aj h2]) v hx
 refine zh hf hb (oC (λe a' w' he=>?_) (k9 hΦ hB hmix cut c F (hE.of λb hb _=>⟨⟨hb,λhs=>(hSlt b hs).2 hb⟩,rfl⟩) A _ _ _ hck (nF c hnw (q8 c)) he p0 _ w hst))
 have key:∀p env M,St F p env M a' w'->vk B (toL fn.results) W (Q x y) env M->(e=.normal\/e=.ret)->bodyPost P fn (λe w'=>∃z r rs R S',Q x y z r/\e=.returned (dG rs)/\ExtS w w' S/\(∀b,R b->w.heap.size<=b/\b<w'.heap.size)/\(∀b,S' b->(S b\/w.heap.size<=b/\b<w'.heap.size)/\¬R b)/\
   Rel (λb=>b<w'.heap.size/\(Ab b\/S b\/w.heap.size<=b)/\¬S' b/\¬R b) w' W.o z S' [u]/\
   cp (λb=>b<w'.heap.size/\(Ab b\/S b\/w.heap.size<=b)/\¬S' b/\¬R b) w' W.rt r R rs) e a' w':=by
  intro p env M hs hr hee;unfold vk at hr;split at hr
  ·rename_i r e1 M1 hres;split at hr
   ·rename_i k hroot;split at hr
    ·rename_i ob hob;split at hr
     ·rename_i z hz;obtain⟨rs,p',R,k1,t,k4,k5,k6,k7⟩:=DU (P:=P) (a:=a') hB (toL fn.results) W.rt p env M _ e1 M1 hs.hp hs.slots hres;rw[cK]at k1
      have hrun:(results fn a'.tmps).run P w'=.ok (dG rs) w':=by
       rw[A4,zj];simp only[fW,zk,k1,il,lD]
       match rs with
       |[]|[u]=>rfl
       |u::u'::r=>simp[dG]
      have hu0:a'.tmps.getD W.i undef=u:=by have:=hs.fix W.i (a0.tmps.getD W.i undef) (by simp[F,jI,hY]);rw[this,hget W.i (by rw[kq];omega),br,qP u W.i us aa,aj (oA _),am rfl];rfl
      have hs0:=t.s _ _ (hs.slots W.i);rw[hu0]at hs0;obtain⟨w1,w2⟩:=uU hz;have hrk:=t.hp.objs k _ hob;have hbox:u=p'.β k:=AL t.hp hob hroot (e:=[]) rfl hs0;rw[←hbox]at hrk;obtain⟨S',s1,s2⟩:=nQ ob.o W.o w1 ob.x _ (p'.σ k) [u] w2 hrk;have hlk:=bP hob;have hRl:∀b,R b->w.heap.size<=b/\b<w'.heap.size:=λb hb=>⟨(t.hp.lim b (k5 b hb)).2.1.elim id (λh=>h.1.elim),(t.hp.lim b (k5 b hb)).1⟩;have hSR:∀b,p'.σ k b->¬R b:=λb hb hR=>(t.hp.lim b (k5 b hR)).2.2 k hlk hb;have hIm:∀b,Imm F p' M1 w' b->(b<w'.heap.size/\(Ab b\/S b\/w.heap.size<=b)/\¬S' b/\¬R b):=λb hb=>⟨hb.1,hb.2.1,λh=>hb.2.2.2 k hlk (s1 b h),λh=>hb.2.2.1 (k5 b h)⟩
      have hpost:∃z r rs' R S',Q x y z r/\Ending.returned (dG rs)=.returned (dG rs')/\ExtS w w' S/\(∀b,R b->w.heap.size<=b/\b<w'.heap.size)/\(∀b,S' b->(S b\/w.heap.size<=b/\b<w'.heap.size)/\¬R b)/\
        Rel (λb=>b<w'.heap.size/\(Ab b\/S b\/w.heap.size<=b)/\¬S' b/\¬R b) w' W.o z S' [u]/\
        cp (λb=>b<w'.heap.size/\(Ab b\/S b\/w.heap.size<=b)/\¬S' b/\¬R b) w' W.rt r R rs':=by
       refine⟨z,r,rs,R,S',hr,rfl,⟨t.hp.os,t.hp.tape,t.hp.output,t.hp.size,λb hb hn=>t.hp.old b hb hn⟩,hRl,λb hb=>⟨?_,hSR b (s1 b hb)⟩,s2 _ hIm (λb hb hnb=>?_),cp.keep hIm _ _ _ _ k7⟩
       ·have:=t.hp.own k b hlk (s1 b hb);rcases this.2 with⟨_,h1⟩|h1
        ·exact .inl h1
        ·exact h1.elim (λh1=>.inr ⟨h1,this.1⟩) (λh1=>h1.1.elim)
       ·have:=t.hp.own k b hlk hb;refine⟨this.1,?_,hnb,hSR b hb⟩;rcases this.2 with⟨_,h1⟩|h1
        ·exact .inr (.inl h1)
        ·exact h1.elim (λh1=>.inr (.inr h1)) (λh1=>h1.1.elim)
      rcases hee with rfl|rfl
      ·exact⟨hs.defers,_,hrun,hpost⟩
      ·exact⟨hs.defers,_,hrun,hpost⟩
     ·exact hr.elim
    ·exact hr.elim
   ·exact hr.elim
  ·exact hr.elim
 cases e with
 |normal=>obtain⟨p,env,M,h1,h2⟩:=he;exact key p env M h1 h2 (.inl rfl)
 |ret=>obtain⟨p,env,M,h1,h2⟩:=he;exact key p env M h1 h2 (.inr rfl)
 |exit id|goto l=>obtain⟨p,env,M,h1,h2⟩:=he;exact h2.elim
 |panic ch|outgrown=>exact he.elim
theorem ae7 (hΦ : fR P Φ) (hB : TabOk P B) (hmix : P.follows .mixedOrders = true)    (hf : P.funcs[f]? = some fn) (hb : fn.body = some c) (hn : (fn.name == "runtime.NumGoroutine") = false) (W : Wt) (A : Ann) (cut : Nat -> Nat)
  (hro:lf W.o=true) (hi:W.i<=W.ag.length) (hga:cn W.i false W.ag=agL B fn) (hck:okC fn.ntmps cut c=true) (hlen:W.ag.length+1<=fn.ntmps) (hnw:noW [W.i] c=true)
  (h:∀x y,ab (W.o.strip.oks x)->ab (okL W.as y)->ab (W.pre x y)->pH B Φ cut fn c A W x y (λz r=>z=W.new x y/\r=W.res x y)):aN P f (g7 W):=by
 refine⟨qA hf hb hn,λAb w u x us y S hE hAlt hSlt hr hargs hpre cs=>?_⟩;obtain⟨e,w',fr,⟨z,r,rs,R,S',hq,h1⟩,h2⟩ :=wt_q hΦ hB hmix hf hb hn W (λx y=>ab (W.pre x y)) (λx y z r=>z=W.new x y/\r=W.res x y) A cut hro hi hga hck hlen hnw h Ab w u x us y S hE hAlt hSlt hr hargs hpre cs;obtain⟨rfl,rfl⟩:=hq;exact⟨e,w',fr,⟨rs,R,S',h1⟩,h2⟩
theorem ade{W:Wt}{q:Nat->W.o.strip.den->bq W.as->List Prop}(hc:xk P f)(h0:∀x y,¬ab (q 0 x y))(hp:∀x y,ab (W.pre x y)->∃n,ab (q n x y))(hs:∀n,aN P f (g7 ⟨W.o,W.as,W.ag,q n,W.new,W.rt,W.res,W.i⟩)->aN P f (g7 ⟨W.o,W.as,W.ag,q (n+1),W.new,W.rt,W.res,W.i⟩)):aN P f (g7 W):=by
 have key:∀n,aN P f (g7 ⟨W.o,W.as,W.ag,q n,W.new,W.rt,W.res,W.i⟩):=by
  intro n
  induction n with
  |zero=>exact⟨hc,λA w u x us y S _ _ _ _ _ h=>absurd h (h0 x y)⟩
  |succ n ih=>exact hs n ih
 refine⟨hc,λA w u x us y S z a b c d h=>?_⟩;obtain⟨n,hn⟩:=hp x y h;exact (key n).2 A w u x us y S z a b c d hn
def rM(W:Wu):Ct:=⟨[],[],λ_=>[],[],λ_=>(),false,some (.k W)⟩
def K1(B:Tab)(rs:List ResultVar)(W:Wu)(K:bY W.rt->Prop)(env:Env)(M:Mem):Prop:=
 match vj B env M rs W.rt with
 |some (r,_,_)=>K r
 |none=>False
def endU(B:Tab)(rs:List ResultVar)(W:Wu)(K:bY W.rt->Prop):Ex->Env->Mem->Prop
 |.ex _,_,_|.go _,_,_=>False
 |.nm,env,M|.rt,env,M=>K1 B rs W K env M
def Cc(B:Tab)(Φ:du)(cut:ju)(fn:Func)(c:jv)(A:Ann)(W:Wu)(x:W.o.strip.den)(y:bq W.as)(K:bY W.rt->Prop):Prop:=ev B Φ cut c A (endU B (toL fn.results) W K) (js 0 (cn W.i (ld W.o (cid 8999 0)) (dr B (fh W.i (toL fn.params)) W.as y))) [(cid 8999 0,⟨W.o,x⟩)]
theorem wu_q (hΦ : fR P Φ) (hB : TabOk P B) (hmix : P.follows .mixedOrders = true)    (hf : P.funcs[f]? = some fn) (hb : fn.body = some c) (hn : (fn.name == "runtime.NumGoroutine") = false) (W : Wu) (pr : W.o.strip.den -> bq W.as -> Prop) (Q : W.o.strip.den -> bq W.as -> bY W.rt -> Prop) (A : Ann) (cut : Nat -> Nat)
  (hro:slO W.o=true) (hi:W.i<=W.ag.length) (hga:cn W.i false W.ag=agL B fn) (hck:okC fn.ntmps cut c=true) (hlen:W.ag.length+1<=fn.ntmps)
  (h:∀x y,ab (W.o.strip.oks x)->ab (okL W.as y)->pr x y->Cc B Φ cut fn c A W x y (Q x y)) :
  ∀(A:aT)(w:aQ)(u:bw)(x:W.o.strip.den)(us:aM)(y:bq W.as)(S:aT),fS P A w->(∀b,A b->b<w.heap.size)->(∀b,S b->b<w.heap.size/\¬A b)->
  Rel (λb=>A b) w W.o x S [u]->d5 A w W.ag W.as y us->pr x y->
  Calls P f (cn W.i u us).toArray w λe w'=>∃r rs R,Q x y r/\e=.returned (dG rs)/\ExtS w w' S/\(∀b,R b->b<w'.heap.size/\(S b\/w.heap.size<=b))/\
   cp (λb=>b<w'.heap.size/\(A b\/S b\/w.heap.size<=b)/\¬R b) w' W.rt r R rs:=by
 intro Ab w u x us y S hE hAlt hSlt hr hargs hpre;let a0:Act:={ tmps:=(cn W.i u us).toArray++Array.replicate (fn.ntmps-(cn W.i u us).toArray.size) undef,defers:=[] }
 have hoks:ab (W.o.strip.oks x):=by have h1:=Rel.frz (Im':=λ_=>True) (λ_ _=>trivial) W.o x S [u] (λ_ _=>trivial) hr;have h2:=kN _ _ (ai.ok _ _ _ h1);exact h2
 let F:Fr:=⟨w,w,Ab,S,λ_=>False,fn.ntmps,λ_=>none,True⟩
 let p0:Ow:=⟨λ_=>u,λ_=>S,λ_=>False⟩
 replace h:=λh1 h2=>h x y h1 h2 hpre;unfold Cc at h;generalize cid 8999 0=kk at h;generalize hM0:([(kk,⟨W.o,x⟩)]:Mem)=M0;have hg0:go M0 kk=some ⟨W.o,x⟩:=by rw[←hM0,cJ,am rfl]
 have hlive:∀k,bm M0 k->k=kk:=λk hk=>by
  unfold bm at hk;rw[←hM0,cJ]at hk;split at hk
  ·rename_i e;exact e.symm
  ·simp[go]at hk
 have himm:∀b,Ab b->Imm F p0 M0 w b:=λb hb=>⟨hAlt b hb,.inl hb,λh=>h,λk hk hs=>(hSlt b hs).2 hb⟩;obtain⟨m,e⟩:=Bo W.i W.ag (toL fn.params) fn.nfree hi hga;obtain⟨l1,l2,l3,l4⟩:=uO (B:=B) (β:=p0.β) (M:=M0) himm W.ag W.as y us hargs (fh W.i (toL fn.params)) m e;have he:=h hoks l3;rw[hM0]at he;have hsz:a0.tmps.size=fn.ntmps:=by simp[a0,kq];omega
 have hget:∀t,t<(cn W.i u us).length->a0.tmps.getD t undef=(cn W.i u us).getD t undef:=λt ht=>by simp only[a0];rw[we,wd (by simpa using ht)];simp[br]
 have hrel0:Rel (Imm F p0 M0 w) w W.o x S [u]:=Rel.keep (λb hb=>⟨himm b hb,rfl⟩) _ _ _ _ (λ_ _=>rfl) hr
 have hp0:Hp F p0 M0 w:=⟨λk ob hk=>by have:=hlive k (bP hk);subst this;rw[hg0]at hk;cases hk;exact hrel0,λk k' b hne hk hk'=>absurd ((hlive k hk).trans (hlive k' hk').symm) hne,
  λk b hk hs=>⟨(hSlt b hs).1,.inr (.inr ⟨trivial,hs⟩)⟩,λb hb=>hb.elim,rfl,⟨rfl,bd _⟩,rfl,bd _,λb _ _=>rfl⟩
 have hst:St F p0 (js 0 (cn W.i (ld W.o kk) (dr B (fh W.i (toL fn.params)) W.as y))) M0 a0 w:=by
  refine⟨rfl,hsz,λt v ht=>?_,λb hb=>hb.elim,λb hb=>hb,λt=>?_,hp0⟩
  ·simp only[F]at ht;cases ht
  ·rw[x5];simp only[fV,dA,vZ];have hil:W.i<=us.length:=aa
   have hil2:W.i<=(dr B (fh W.i (toL fn.params)) W.as y).length:=aa
   have hgu:∀t,(cn W.i u us).getD t undef=if t<W.i then us.getD t undef else if t=W.i then u else us.getD (t-1) undef:=λt=>by
    rw[br,qP u W.i us hil t];split
    ·rw[br]
    ·split
     ·rfl
     ·rw[br]
   have hoth:∀t s,s<us.length->t<(cn W.i u us).length->(cn W.i u us).getD t undef=us.getD s undef->∀v,(dr B (fh W.i (toL fn.params)) W.as y)[s]? = some v->ae p0.β M0 (Imm F p0 M0 w) w v (a0.tmps.getD t undef):=λt s hs ht he v hx=>by
    have hu:us[s]? = some us[s]:=bU hs;rw[hget t ht,he];have:us.getD s undef=us[s]:=by simp[br,hu]
    rw[this];exact l4 s v _ hx hu
   have hlen2:(dr B (fh W.i (toL fn.params)) W.as y).length=us.length:=aa
   rw[qP _ W.i _ hil2 t];by_cases h1:t<W.i
   ·rw[am h1]
    cases hx:(dr B (fh W.i (toL fn.params)) W.as y)[t]? with
    |none=>simp only[pM,ae]
    |some v=>have ht:=(gp.1 hx).1;simp only[gA];exact hoth t t aa (by rw[kq];omega) (by rw[hgu,am h1]) v hx
   rw[aj h1];by_cases h2:t=W.i
   ·subst h2;rw[am rfl,hget W.i (by rw[kq];omega),hgu,aj (oA _),am rfl];simp only[gA]
    have key:∀(o:O)(z:o.strip.den),slO o=true->go M0 kk=some ⟨o,z⟩->ae p0.β M0 (Imm F p0 M0 w) w (ld o kk) u:=λo z ho hgo=>by
     cases o with
     |sl e=>simp only[ld,ae,ac];exact⟨_,none,hgo,by simp only[gok],⟨_,by simp only[get];rfl⟩,by simp only[res,p0]⟩
     |fz t|p a b|mp e e'|op e|pt o=>cases ho
    exact key W.o x hro hg0
   ·rw[aj h2]
    cases hx:(dr B (fh W.i (toL fn.params)) W.as y)[t-1]? with
    |none=>simp only[pM,ae]
    |some v=>have ht:=(gp.1 hx).1;simp only[gA];exact hoth t (t-1) aa (by rw[kq];omega) (by rw[hgu,aj h1,aj h2]) v hx
 refine zh hf hb (oC (λe a' w' he=>?_) (k9 hΦ hB hmix cut c F (hE.of λb hb _=>⟨⟨hb,λhs=>(hSlt b hs).2 hb⟩,rfl⟩) A _ _ _ hck (q8 c) he p0 _ w hst))
 have key:∀p env M,St F p env M a' w'->K1 B (toL fn.results) W (Q x y) env M->(e=.normal\/e=.ret)->bodyPost P fn (λe w'=>∃r rs R,Q x y r/\e=.returned (dG rs)/\ExtS w w' S/\(∀b,R b->b<w'.heap.size/\(S b\/w.heap.size<=b))/\
   cp (λb=>b<w'.heap.size/\(Ab b\/S b\/w.heap.size<=b)/\¬R b) w' W.rt r R rs) e a' w':=by
  intro p env M hs hr hee;unfold K1 at hr;split at hr
  ·rename_i r e1 M1 hres;obtain⟨rs,p',R,k1,t,k4,k5,k6,k7⟩:=DU (P:=P) (a:=a') hB (toL fn.results) W.rt p env M _ e1 M1 hs.hp hs.slots hres;rw[cK]at k1
   have hrun:(results fn a'.tmps).run P w'=.ok (dG rs) w':=by
    rw[A4,zj];simp only[fW,zk,k1,il,lD]
    match rs with
    |[]|[u]=>rfl
    |u::u'::r=>simp[dG]
   have hpost:∃r rs' R,Q x y r/\Ending.returned (dG rs)=.returned (dG rs')/\ExtS w w' S/\(∀b,R b->b<w'.heap.size/\(S b\/w.heap.size<=b))/\
     cp (λb=>b<w'.heap.size/\(Ab b\/S b\/w.heap.size<=b)/\¬R b) w' W.rt r R rs':=by
    refine⟨r,rs,R,hr,rfl,⟨t.hp.os,t.hp.tape,t.hp.output,t.hp.size,λb hb hn=>t.hp.old b hb hn⟩,λb hb=>⟨(t.hp.lim b (k5 b hb)).1,(t.hp.lim b (k5 b hb)).2.1.elim .inr λh=>.inl h.2⟩,cp.keep (λb hb=>⟨hb.1,hb.2.1,λhR=>hb.2.2.1 (k5 b hR)⟩) _ _ _ _ k7⟩
   rcases hee with rfl|rfl
   ·exact⟨hs.defers,_,hrun,hpost⟩
   ·exact⟨hs.defers,_,hrun,hpost⟩
  ·exact hr.elim
 cases e with
 |normal=>obtain⟨p,env,M,h1,h2⟩:=he;exact key p env M h1 h2 (.inl rfl)
 |ret=>obtain⟨p,env,M,h1,h2⟩:=he;exact key p env M h1 h2 (.inr rfl)
 |exit id|goto l=>obtain⟨p,env,M,h1,h2⟩:=he;exact h2.elim
 |panic ch|outgrown=>exact he.elim
theorem TB (hΦ : fR P Φ) (hB : TabOk P B) (hmix : P.follows .mixedOrders = true)    (hf : P.funcs[f]? = some fn) (hb : fn.body = some c) (hn : (fn.name == "runtime.NumGoroutine") = false) (W : Wu) (A : Ann) (cut : Nat -> Nat)
  (hro:slO W.o=true) (hi:W.i<=W.ag.length) (hga:cn W.i false W.ag=agL B fn) (hck:okC fn.ntmps cut c=true) (hlen:W.ag.length+1<=fn.ntmps)
  (h:∀x y,ab (W.o.strip.oks x)->ab (okL W.as y)->ab (W.pre x y)->Cc B Φ cut fn c A W x y (λr=>r=W.res x y)):aN P f (rM W):=by
 refine⟨qA hf hb hn,λAb w u x us y S hE hAlt hSlt hr hargs hpre cs=>?_⟩;obtain⟨e,w',fr,⟨r,rs,R,hq,h1⟩,h2⟩:=wu_q hΦ hB hmix hf hb hn W (λx y=>ab (W.pre x y)) (λx y r=>r=W.res x y) A cut hro hi hga hck hlen h Ab w u x us y S hE hAlt hSlt hr hargs hpre cs;subst hq;exact⟨e,w',fr,⟨rs,R,h1⟩,h2⟩
theorem SN{W:Wu}(μ:W.o.strip.den->bq W.as->Nat){g:Nat->W.o.strip.den->bq W.as->bY W.rt}(hc:xk P f)(hg:∀x y,W.res x y=g (μ x y+1) x y)(hs:∀n,aN P f (rM ⟨W.o,W.as,W.ag,λx y=>(μ x y<n)::W.pre x y,W.rt,g n,W.i⟩)->aN P f (rM ⟨W.o,W.as,W.ag,λx y=>(μ x y<n+1)::W.pre x y,W.rt,g (n+1),W.i⟩)):aN P f (rM W):=by
 have key:∀n,aN P f (rM ⟨W.o,W.as,W.ag,λx y=>(μ x y<n)::W.pre x y,W.rt,g n,W.i⟩):=by
  intro n
  induction n with
  |zero=>exact⟨hc,λA w u x us y S _ _ _ _ _ h=>absurd h.1 (C9 _)⟩
  |succ n ih=>exact hs n ih
 refine⟨hc,λA w u x us y S z a b c d h=>?_⟩;have:=(key (μ x y+1)).2 A w u x us y S z a b c d ⟨ww _,h⟩;rw[hg];exact this
def Gc(B:Tab)(Φ:du)(cut:ju)(fn:Func)(c:jv)(A:Ann)(W:Wt)(x:W.o.strip.den)(y:bq W.as)(K:W.o.strip.den->bY W.rt->Prop):Prop:=ev B Φ cut c A (yI B (toL fn.results) W K) (js 0 (cn W.i (ld W.o (cid 8999 0)) (dr B (fh W.i (toL fn.params)) W.as y))) [(cid 8999 0,⟨W.o,x⟩)]
theorem aax(rs:gH)(h:rs=[])(x:bY rs)(S:aT)(us:aM)(r:cp Im w rs x S us):cp Im' w rs x S' us:=by subst h;simpa only [cp]using r
theorem wx_q (hΦ : fR P Φ) (hB : TabOk P B) (hmix : P.follows .mixedOrders = true)    (hf : P.funcs[f]? = some fn) (hb : fn.body = some c) (hn : (fn.name == "runtime.NumGoroutine") = false) (W : Wt) (pr : W.o.strip.den -> bq W.as -> Prop) (Q : W.o.strip.den -> bq W.as -> W.o.strip.den -> bY W.rt -> Prop) (A : Ann) (cut : Nat -> Nat)
  (hrt:W.rt=[]) (hro:lf W.o=true) (hi:W.i<=W.ag.length) (hga:cn W.i false W.ag=agL B fn) (hck:okC fn.ntmps cut c=true) (hlen:W.ag.length+1<=fn.ntmps) (hnw:noW [W.i] c=true)
  (h:∀x y,ab (W.o.strip.oks x)->ab (okL W.as y)->pr x y->Gc B Φ cut fn c A W x y (Q x y)) :
  ∀(A:aT)(w:aQ)(u:bw)(x:W.o.strip.den)(us:aM)(y:bq W.as)(S:aT),fS P A w->(∀b,A b->b<w.heap.size)->(∀b,S b->b<w.heap.size/\¬A b)->
  Rel (λb=>A b) w W.o x S [u]->d5 A w W.ag W.as y us->pr x y->
  Calls P f (cn W.i u us).toArray w λe w'=>∃z r rs R S',Q x y z r/\e=.returned (dG rs)/\ExtS w w' S/\(∀b,R b->w.heap.size<=b/\b<w'.heap.size)/\(∀b,S' b->(S b\/w.heap.size<=b/\b<w'.heap.size)/\¬R b)/\
   Rel (λb=>b<w'.heap.size/\(A b\/S b\/w.heap.size<=b)/\¬S' b/\¬R b) w' W.o z S' [u]/\
   cp (λb=>b<w'.heap.size/\(A b\/S b\/w.heap.size<=b)/\¬S' b/\¬R b) w' W.rt r R rs:=by
 intro Ab w u x us y S hE hAlt hSlt hr hargs hpre;let a0:Act:={ tmps:=(cn W.i u us).toArray++Array.replicate (fn.ntmps-(cn W.i u us).toArray.size) undef,defers:=[] }
 have hoks:ab (W.o.strip.oks x):=by have h1:=Rel.frz (Im':=λ_=>True) (λ_ _=>trivial) W.o x S [u] (λ_ _=>trivial) hr;have h2:=kN _ _ (ai.ok _ _ _ h1);exact h2
 let F:Fr:=⟨w,w,Ab,S,λ_=>False,fn.ntmps,jI (λ_=>none) [W.i] a0,True⟩
 let p0:Ow:=⟨λ_=>u,λ_=>S,λ_=>False⟩
 replace h:=λh1 h2=>h x y h1 h2 hpre;unfold Gc at h;generalize cid 8999 0=kk at h;generalize hM0:([(kk,⟨W.o,x⟩)]:Mem)=M0;have hg0:go M0 kk=some ⟨W.o,x⟩:=by rw[←hM0,cJ,am rfl]
 have hlive:∀k,bm M0 k->k=kk:=λk hk=>by
  unfold bm at hk;rw[←hM0,cJ]at hk;split at hk
  ·rename_i e;exact e.symm
  ·simp[go]at hk
 have himm:∀b,Ab b->Imm F p0 M0 w b:=λb hb=>⟨hAlt b hb,.inl hb,λh=>h,λk hk hs=>(hSlt b hs).2 hb⟩;obtain⟨m,e⟩:=Bo W.i W.ag (toL fn.params) fn.nfree hi hga;obtain⟨l1,l2,l3,l4⟩:=uO (B:=B) (β:=p0.β) (M:=M0) himm W.ag W.as y us hargs (fh W.i (toL fn.params)) m e;have he:=h hoks l3;rw[hM0]at he;have hsz:a0.tmps.size=fn.ntmps:=by simp[a0,kq];omega
 have hget:∀t,t<(cn W.i u us).length->a0.tmps.getD t undef=(cn W.i u us).getD t undef:=λt ht=>by simp only[a0];rw[we,wd (by simpa using ht)];simp[br]
 have hrel0:Rel (Imm F p0 M0 w) w W.o x S [u]:=Rel.keep (λb hb=>⟨himm b hb,rfl⟩) _ _ _ _ (λ_ _=>rfl) hr
 have hp0:Hp F p0 M0 w:=⟨λk ob hk=>by have:=hlive k (bP hk);subst this;rw[hg0]at hk;cases hk;exact hrel0,λk k' b hne hk hk'=>absurd ((hlive k hk).trans (hlive k' hk').symm) hne,
  λk b hk hs=>⟨(hSlt b hs).1,.inr (.inr ⟨trivial,hs⟩)⟩,λb hb=>hb.elim,rfl,⟨rfl,bd _⟩,rfl,bd _,λb _ _=>rfl⟩
 have hst:St F p0 (js 0 (cn W.i (ld W.o kk) (dr B (fh W.i (toL fn.params)) W.as y))) M0 a0 w:=by
  refine⟨rfl,hsz,λt v ht=>?_,λb hb=>hb.elim,λb hb=>hb,λt=>?_,hp0⟩
  ·simp only[F,jI]at ht
   cases hm:hY t [W.i]with
   |true=>rw[hm]at ht;simpa using ht
   |false=>rw[hm]at ht;cases ht
  ·rw[x5];simp only[fV,dA,vZ];have hil:W.i<=us.length:=aa
   have hil2:W.i<=(dr B (fh W.i (toL fn.params)) W.as y).length:=aa
   have hgu:∀t,(cn W.i u us).getD t undef=if t<W.i then us.getD t undef else if t=W.i then u else us.getD (t-1) undef:=λt=>by
    rw[br,qP u W.i us hil t];split
    ·rw[br]
    ·split
     ·rfl
     ·rw[br]
   have hoth:∀t s,s<us.length->t<(cn W.i u us).length->(cn W.i u us).getD t undef=us.getD s undef->∀v,(dr B (fh W.i (toL fn.params)) W.as y)[s]? = some v->ae p0.β M0 (Imm F p0 M0 w) w v (a0.tmps.getD t undef):=λt s hs ht he v hx=>by
    have hu:us[s]? = some us[s]:=bU hs;rw[hget t ht,he];have:us.getD s undef=us[s]:=by simp[br,hu]
    rw[this];exact l4 s v _ hx hu
   have hlen2:(dr B (fh W.i (toL fn.params)) W.as y).length=us.length:=aa
   rw[qP _ W.i _ hil2 t];by_cases h1:t<W.i
   ·rw[am h1]
    cases hx:(dr B (fh W.i (toL fn.params)) W.as y)[t]? with
    |none=>simp only[pM,ae]
    |some v=>have ht:=(gp.1 hx).1;simp only[gA];exact hoth t t aa (by rw[kq];omega) (by rw[hgu,am h1]) v hx
   rw[aj h1];by_cases h2:t=W.i
   ·subst h2;rw[am rfl,hget W.i (by rw[kq];omega),hgu,aj (oA _),am rfl];simp only[gA]
    have key:∀(o:O)(z:o.strip.den),lf o=true->go M0 kk=some ⟨o,z⟩->Rel (Imm F p0 M0 w) w o z S [u]->ae p0.β M0 (Imm F p0 M0 w) w (ld o kk) u:=λo z ho hgo hrl=>by
     cases o with
     |pt o1=>simp only[ld,ae,ac];refine⟨u,rfl,?_⟩;simp only[Rel]at hrl;obtain⟨bb,us1,ty',S1,r1,_⟩:=hrl;simp only[bG,az]at r1;exact⟨_,cellsOf w bb 0 o1.size,bb,0,hgo,by simp only[gok],by simp only[get];exact⟨_,rfl⟩,by simp only[bV],by simp only[p0,r1,res],r1⟩
     |sl e=>simp only[ld,ae,ac];exact⟨_,none,hgo,by simp only[gok],⟨_,by simp only[get];rfl⟩,by simp only[res,p0]⟩
     |fz t|p a b|mp e e'|op e=>cases ho
    exact key W.o x hro hg0 hrel0
   ·rw[aj h2]
    cases hx:(dr B (fh W.i (toL fn.params)) W.as y)[t-1]? with
    |none=>simp only[pM,ae]
    |some v=>have ht:=(gp.1 hx).1;simp only[gA];exact hoth t (t-1) aa (by rw[kq];omega) (by rw[hgu,aj h1,aj h2]) v hx
 refine zh hf hb (oC (λe a' w' he=>?_) (k9 hΦ hB hmix cut c F (hE.of λb hb _=>⟨⟨hb,λhs=>(hSlt b hs).2 hb⟩,rfl⟩) A _ _ _ hck (nF c hnw (q8 c)) he p0 _ w hst))
 have key:∀p env M,St F p env M a' w'->vk B (toL fn.results) W (Q x y) env M->(e=.normal\/e=.ret)->bodyPost P fn (λe w'=>∃z r rs R S',Q x y z r/\e=.returned (dG rs)/\ExtS w w' S/\(∀b,R b->w.heap.size<=b/\b<w'.heap.size)/\(∀b,S' b->(S b\/w.heap.size<=b/\b<w'.heap.size)/\¬R b)/\
   Rel (λb=>b<w'.heap.size/\(Ab b\/S b\/w.heap.size<=b)/\¬S' b/\¬R b) w' W.o z S' [u]/\
   cp (λb=>b<w'.heap.size/\(Ab b\/S b\/w.heap.size<=b)/\¬S' b/\¬R b) w' W.rt r R rs) e a' w':=by
  intro p env M hs hr hee;unfold vk at hr;split at hr
  ·rename_i r e1 M1 hres;split at hr
   ·rename_i k hroot;split at hr
    ·rename_i ob hob;split at hr
     ·rename_i z hz;obtain⟨rs,p',R,k1,t,k4,k5,k6,k7⟩:=DU (P:=P) (a:=a') hB (toL fn.results) W.rt p env M _ e1 M1 hs.hp hs.slots hres;rw[cK]at k1
      have hrun:(results fn a'.tmps).run P w'=.ok (dG rs) w':=by
       rw[A4,zj];simp only[fW,zk,k1,il,lD]
       match rs with
       |[]|[u]=>rfl
       |u::u'::r=>simp[dG]
      have hu0:a'.tmps.getD W.i undef=u:=by have:=hs.fix W.i (a0.tmps.getD W.i undef) (by simp[F,jI,hY]);rw[this,hget W.i (by rw[kq];omega),br,qP u W.i us aa,aj (oA _),am rfl];rfl
      have hs0:=t.s _ _ (hs.slots W.i);rw[hu0]at hs0;obtain⟨w1,w2⟩:=uU hz;have hrk:=t.hp.objs k _ hob;have hbox:u=p'.β k:=AL t.hp hob hroot (e:=[]) rfl hs0;rw[←hbox]at hrk;obtain⟨S',s1,s2⟩:=nQ ob.o W.o w1 ob.x _ (p'.σ k) [u] w2 hrk;have hlk:=bP hob
      have hS':∀b,p'.σ k b->S b\/w.heap.size<=b/\b<w'.heap.size:=λb hb=>by
       have:=t.hp.own k b (bP hob) hb;rcases this.2 with⟨_,h1⟩|h1
       ·exact .inl h1
       ·exact h1.elim (λh1=>.inr ⟨h1,this.1⟩) (λh1=>.inl h1.2)
      have hIm:∀b,Imm F p' M1 w' b->(b<w'.heap.size/\(Ab b\/S b\/w.heap.size<=b)/\¬S' b/\¬False):=λb hb=>⟨hb.1,hb.2.1,λh=>hb.2.2.2 k (bP hob) (s1 b h),λh=>h⟩
      have hpost:∃z r rs' R S',Q x y z r/\Ending.returned (dG rs)=.returned (dG rs')/\ExtS w w' S/\(∀b,R b->w.heap.size<=b/\b<w'.heap.size)/\(∀b,S' b->(S b\/w.heap.size<=b/\b<w'.heap.size)/\¬R b)/\
        Rel (λb=>b<w'.heap.size/\(Ab b\/S b\/w.heap.size<=b)/\¬S' b/\¬R b) w' W.o z S' [u]/\
        cp (λb=>b<w'.heap.size/\(Ab b\/S b\/w.heap.size<=b)/\¬S' b/\¬R b) w' W.rt r R rs':=by
       refine⟨z,r,rs,λ_=>False,S',hr,rfl,⟨t.hp.os,t.hp.tape,t.hp.output,t.hp.size,λb hb hn=>t.hp.old b hb hn⟩,λb hb=>hb.elim,λb hb=>⟨hS' b (s1 b hb),λh=>h⟩,s2 _ hIm (λb hb hnb=>?_),aax _ hrt _ _ _ k7⟩;refine⟨(t.hp.own k b (bP hob) hb).1,?_,hnb,λh=>h⟩;exact .inr ((hS' b hb).imp id λh=>h.1)
      rcases hee with rfl|rfl
      ·exact⟨hs.defers,_,hrun,hpost⟩
      ·exact⟨hs.defers,_,hrun,hpost⟩
     ·exact hr.elim
    ·exact hr.elim
   ·exact hr.elim
  ·exact hr.elim
 cases e with
 |normal=>obtain⟨p,env,M,h1,h2⟩:=he;exact key p env M h1 h2 (.inl rfl)
 |ret=>obtain⟨p,env,M,h1,h2⟩:=he;exact key p env M h1 h2 (.inr rfl)
 |exit id|goto l=>obtain⟨p,env,M,h1,h2⟩:=he;exact h2.elim
 |panic ch|outgrown=>exact he.elim
theorem aei (hΦ : fR P Φ) (hB : TabOk P B) (hmix : P.follows .mixedOrders = true)    (hf : P.funcs[f]? = some fn) (hb : fn.body = some c) (hn : (fn.name == "runtime.NumGoroutine") = false) (W : Wt) (A : Ann) (cut : Nat -> Nat)
  (hrt:W.rt=[]) (hro:lf W.o=true) (hi:W.i<=W.ag.length) (hga:cn W.i false W.ag=agL B fn) (hck:okC fn.ntmps cut c=true) (hlen:W.ag.length+1<=fn.ntmps) (hnw:noW [W.i] c=true)
  (h:∀x y,ab (W.o.strip.oks x)->ab (okL W.as y)->ab (W.pre x y)->Gc B Φ cut fn c A W x y (λz r=>z=W.new x y/\r=W.res x y)):aN P f (g7 W):=by
 refine⟨qA hf hb hn,λAb w u x us y S hE hAlt hSlt hr hargs hpre cs=>?_⟩;obtain⟨e,w',fr,⟨z,r,rs,R,S',hq,h1⟩,h2⟩ :=wx_q hΦ hB hmix hf hb hn W (λx y=>ab (W.pre x y)) (λx y z r=>z=W.new x y/\r=W.res x y) A cut hrt hro hi hga hck hlen hnw h Ab w u x us y S hE hAlt hSlt hr hargs hpre cs;obtain⟨rfl,rfl⟩:=hq;exact⟨e,w',fr,⟨rs,R,S',h1⟩,h2⟩
def eZ:V->V->Bool
 |.ad k π,.ad j ρ=>nob (Nat.beq k j) (nob (rL π) (rL ρ))
 |.bx a,.bx b=>eZ a b
 |.fn f a,.fn g b=>nob (Nat.beq f g) (eZ a b)
 |.p a b,.p c d=>nob (eZ a c) (eZ b d)
 |.u,.u|.any,.any|.d .any _,.d .any _=>true
 |_,_=>false
theorem AA:∀(a b:V),eZ a b=true->a=b
 |.ad k π,b,h=>by cases b<;>simp only[eZ,aP,ao]at h<;>first|(rw[cR h.1,xw h.2.1,xw h.2.2])|cases h
 |.bx a,b,h=>by cases b<;>simp only[eZ]at h<;>first|(rw[AA _ _ h])|cases h
 |.fn f a,b,h=>by cases b<;>simp only[eZ,aP,ao]at h<;>first|(rw[cR h.1,AA _ _ h.2])|cases h
 |.p a c,b,h=>by cases b<;>simp only[eZ,aP,ao]at h<;>first|(rw[AA _ _ h.1,AA _ _ h.2])|cases h
 |.u,b,h|.any,b,h=>by cases b<;>first|rfl|cases h
 |.nl,b,h|.np,b,h=>by cases b<;>cases h
 |.d t x,b,h=>by cases t<;>first|(cases b<;>simp[eZ]at h;done)|(cases b<;>first|(simp[eZ]at h;done)|(rename_i t' x';cases t'<;>first|(simp[eZ]at h;done)|rfl))
 |.ref _ _,b,h|.ag _,b,h|.tup _,b,h|.gd _ _ _ _,b,h|.ifc _ _,b,h=>by cases b<;>cases h
def mI:List V->List V->Bool
 |[],[]=>true
 |a::r,b::s=>nob (eZ a b) (mI r s)
 |_,_=>false
theorem IT:∀(a b:cf),mI a b=true->a=b
 |[],[],_=>rfl
 |a::r,b::s,h=>by simp only[mI,aP,ao]at h;rw[AA _ _ h.1,IT _ _ h.2]
 |[],_::_,h|_::_,[],h=>by cases h
def iW(ρ:ju):V->V
 |.ad k π=>.ad (ρ k) π
 |.bx a=>.bx (iW ρ a)
 |.fn f a=>.fn f (iW ρ a)
 |.p a b=>.p (iW ρ a) (iW ρ b)
 |v=>v
def pq(k:Nat):V->Bool
 |.ad j _=>Nat.beq k j
 |.bx a|.fn _ a=>pq k a
 |.p a b=>orb (pq k a) (pq k b)
 |_=>false
def BW(f:V->Bool):List V->Bool
 |[]=>false
 |v::r=>orb (f v) (BW f r)
def yx:List Nat->List V->Bool
 |[],_=>true
 |k::ks,vs=>nob (BW (pq k) vs) (yx ks vs)
theorem AQ{ρ:ju}(hM:∀i ob,go M (ρ i)=some ob->go M' i=some ob)(hI:∀b,Im b->Im' b):∀(v:V)(us:aM),eZ v v=true->ac β M Im w (iW ρ v) us->ac (λi=>β (ρ i)) M' Im' w v us
 |.ad k π,us,_,r=>by simp only[iW,ac]at r⊢;obtain⟨v,rfl,ob,us,b,off,h1,h2⟩:=r;exact⟨v,rfl,ob,us,b,off,hM _ _ h1,h2⟩
 |.bx a,us,h,r=>by simp only[iW,ac]at r⊢;obtain⟨b,o,vs,h1,h2,h3,h4⟩:=r;exact⟨b,o,vs,h1,hI b h2,h3,AQ hM hI a vs (by simpa only [eZ]using h) h4⟩
 |.fn f a,us,h,r=>by simp only[iW,ac]at r⊢;obtain⟨vs,h1,h4⟩:=r;simp only[eZ,aP,ao]at h;exact⟨vs,h1,AQ hM hI a vs h.2 h4⟩
 |.p a b,us,h,r=>by simp only[iW,ac]at r⊢;obtain⟨va,vb,h1,h2,h3⟩:=r;simp only[eZ,aP,ao]at h;exact⟨va,vb,h1,AQ hM hI a va h.1 h2,AQ hM hI b vb h.2 h3⟩
 |.u,us,_,r|.any,us,_,r=>by simpa only [iW,ac]using r
 |.nl,_,h,_|.np,_,h,_=>by cases h
 |.d t x,us,h,r=>by cases t<;>first|(simp[eZ]at h;done)|(simp only[iW,ac,ai]at r⊢;exact r)
 |.ref _ _,_,h,_|.ag _,_,h,_|.tup _,_,h,_|.gd _ _ _ _,_,h,_|.ifc _ _,_,h,_=>by cases h
def xT:V->Bool
 |.any=>false
 |.p a b=>nob (xT a) (xT b)
 |_=>true
def Tm:V->Bool
 |.any=>true
 |_=>false
def wfV:V->Bool
 |.p a b=>nob (xT a) (nob (wfV a) (wfV b))
 |.bx a=>nob (orb (Tm a) (xT a)) (wfV a)
 |.fn _ a=>wfV a
 |_=>true
def L9:V->Nat
 |.p a b=>L9 a+L9 b
 |.u=>0
 |_=>1
theorem xA:∀(v:V)(us:aM),eZ v v=true->xT v=true->ac β M Im w v us->us.length=L9 v
 |.ad k π,us,_,_,r=>by simp only[ac]at r;obtain⟨v,rfl,_⟩:=r;rfl
 |.bx a,us,_,_,r=>by simp only[ac]at r;obtain⟨b,o,vs,rfl,_⟩:=r;rfl
 |.fn f a,us,_,_,r=>by simp only[ac]at r;obtain⟨vs,rfl,_⟩:=r;rfl
 |.p a b,us,h,hn,r=>by simp only[ac]at r;obtain⟨va,vb,rfl,h2,h3⟩:=r;simp only[eZ,aP,ao]at h;simp only[xT,aP,ao]at hn;rw[bn,xA a va h.1 hn.1 h2,xA b vb h.2 hn.2 h3];rfl
 |.u,us,_,_,r=>by simp only[ac]at r;subst r;rfl
 |.any,us,_,hn,_=>by cases hn
 |.nl,_,h,_,_|.np,_,h,_,_=>by cases h
 |.d t x,us,h,_,r=>by cases t<;>first|(simp[eZ]at h;done)|(simp only[ac,ai]at r;obtain⟨v,rfl,_⟩:=r;rfl)
 |.ref _ _,_,h,_,_|.ag _,_,h,_,_|.tup _,_,h,_,_|.gd _ _ _ _,_,h,_,_|.ifc _ _,_,h,_,_=>by cases h
theorem pin(H:∀k u,Adr β M w k [.de] u->u=β k)(H':∀k u,Adr β' M' w' k [.de] u->u=β' k)(hk:∀b,Im b->w'.heap[b]? = w.heap[b]?):∀(v:V)(us:aM),eZ v v=true->wfV v=true->ac β M Im w v us->ac β' M' Im' w' v us->∀k,pq k v=true->β k=β' k
 |.ad j π,us,h,_,r,r',k,ho=>by simp only[eZ,aP,ao]at h;have:=xw h.2.1;subst this;have:=cR ho;subst this;simp only[ac]at r r';obtain⟨v,rfl,r⟩:=r;obtain⟨v',e,r'⟩:=r';simp only[bG,az]at e;subst e;rw[←H k v r,←H' k v r']
 |.bx a,us,h,hw,r,r',k,ho=>by
  simp only[eZ]at h;simp only[wfV,aP,eX,ao,e9]at hw;simp only[pq]at ho;simp only[ac]at r r';obtain⟨b,o,vs,rfl,h2,h3,h4⟩:=r;obtain⟨b',o',vs',e,h2',h3',h4'⟩:=r';simp only[bG,G6,aI,Addr.mk.injEq,az]at e;obtain⟨rfl,rfl⟩:=e;rcases hw.1 with hn|hn
  ·cases a<;>first|(simp[Tm]at hn;done)|(simp[pq]at ho;done)
  ·have hl:=xA a vs h hn h4;have hl':=xA a vs' h hn h4'
   have:vs=vs':=mo λi=>by
    by_cases hi:i<vs.length
    ·have e1:=h3 i vs[i] (bU hi);have e2:=h3' i vs'[i] (bU aa);have e3:w'.cell? ⟨b,o+i,none⟩=w.cell? ⟨b,o+i,none⟩:=by simp[World.cell?,hk b h2]
     rw[e3,e1]at e2;rw[bU hi,bU aa];exact e2
    ·rw[ja aa,ja aa]
   subst this;exact pin H H' hk a vs h hw.2 h4 h4' k ho
 |.fn f a,us,h,hw,r,r',k,ho=>by
  simp only[eZ,aP,ao]at h;simp only[wfV]at hw;simp only[pq]at ho;simp only[ac]at r r';obtain⟨vs,rfl,h4⟩:=r;obtain⟨vs',e,h4'⟩:=r';simp only[bG,Value.func.injEq,az,aL]at e;have:vs=vs':=by simpa using e
  subst this;exact pin H H' hk a vs h.2 hw h4 h4' k ho
 |.p a b,us,h,hw,r,r',k,ho=>by
  simp only[eZ,aP,ao]at h;simp only[wfV,aP,ao]at hw;simp only[pq,eX,e9]at ho;simp only[ac]at r r';obtain⟨va,vb,rfl,h2,h3⟩:=r;obtain⟨va',vb',e,h2',h3'⟩:=r';have hl:=xA a va h.1 hw.1 h2;have hl':=xA a va' h.1 hw.1 h2';obtain⟨rfl,rfl⟩:=List.append_inj e aa;rcases ho with ho|ho
  ·exact pin H H' hk a va h.1 hw.2.1 h2 h2' k ho
  ·exact pin H H' hk b vb h.2 hw.2.2 h3 h3' k ho
 |.u,_,_,_,_,_,_,ho|.any,_,_,_,_,_,_,ho=>by cases ho
 |.nl,_,h,_,_,_,_,_|.np,_,h,_,_,_,_,_=>by cases h
 |.d _ _,_,_,_,_,_,_,ho=>by cases ho
 |.ref _ _,_,h,_,_,_,_,_|.ag _,_,h,_,_,_,_,_|.tup _,_,h,_,_,_,_,_|.gd _ _ _ _,_,h,_,_,_,_,_|.ifc _ _,_,h,_,_,_,_,_=>by cases h
@[reducible] def d8:List O->Type
 |[]=>Unit
 |o::r=>o.strip.den×d8 r
structure Wz where
 fl:Bool
 os:List O
 as:List T
 key:List V->List Nat
 pat:List Nat->List V
 pre:d8 os->bq as->List Prop
 new:d8 os->bq as->d8 os
 res:d8 os->bq as->Bool
variable {Z:Wz}
abbrev gS:Type:=List O
def jH(M:Mem):List Nat->(os:gS)->Option (d8 os)
 |[],[]=>some ()
 |k::ks,o::os=>(match go M k with
  |some ob=>(match jn ob o,jH M ks os with|some x,some r=>some (x,r)|_,_=>none)
  |none=>none)
 |_,_=>none
def upZ:List Nat->(os:gS)->d8 os->List (Nat×O×Ob)
 |k::ks,o::os,x=>(k,o,⟨o,x.1⟩)::upZ ks os x.2
 |_,_,_=>[]
def BT:List O->Bool
 |[]=>true
 |o::r=>nob o.flat (BT r)
def TC(fl:bo)(os:gS)(M:Mem)(ks:aZ)(vs:cf)(ts:ii):Option (bq ts):=bif fl then (bif BT os then kA (dx ks M) vs ts else none)else asL vs ts
def evZ(Z:Wz)(vs:cf)(M:Mem):Orr:=
 match Z.key (fe (len Z.as) vs)with
 |ks=>bif aO [shp (cj (len Z.as) vs) (kY Z.as),nR ks,vp ks,mI (fe (len Z.as) vs) (Z.pat ks)]then
  (match TC Z.fl Z.os M ks (cj (len Z.as) vs) Z.as,jH M ks Z.os with
  |some y,some xs=>⟨Z.pre xs y,.d .bool (Z.res xs y),upZ ks Z.os (Z.new xs y)⟩
  |_,_=>⟨[False],.any,[]⟩)else⟨[False],.any,[]⟩
def zCt(Z:Wz):Ct:=⟨[],[],λ_=>[],[],λ_=>(),false,some (.o ⟨evZ Z⟩)⟩
def dE(Im:aT)(w:aQ)(β:fD)(σ:jN):List Nat->(os:gS)->d8 os->Prop
 |k::ks,o::os,x=>Rel Im w o x.1 (σ k) [β k]/\dE Im w β σ ks os x.2
 |[],[],_=>True
 |_,_,_=>False
theorem dE.keys{Im:aT}{w:aQ}{β:fD}{σ:jN}:∀(ks:aZ)(os:gS)(x:d8 os),dE Im w β σ ks os x->ks.length=os.length
 |[],[],_,_=>rfl
 |k::ks,o::os,x,r=>by simp only[dE]at r;simp[dE.keys ks os x.2 r.2]
 |[],_::_,_,r|_::_,[],_,r=>by simp only[dE]at r
def ZOk(P:cX)(f:fL)(Z:Wz):Prop:=
 ∀(A:aT)(w:aQ)(β:fD)(M:Mem)(ks:aZ)(σ:jN)(xs:d8 Z.os)(y:bq Z.as)(us0 us1:aM),fS P A w->(∀b,A b->b<w.heap.size)->ks.Nodup->jH M ks Z.os=some xs->
  (∀k,k∈ks->∀b,σ k b->b<w.heap.size/\¬A b)->(∀k k',k∈ks->k'∈ks->k≠k'->∀b,σ k b->¬σ k' b)->dE A w β σ ks Z.os xs->d5 A w (kY Z.as) Z.as y us0->
  us1.length=(Z.pat ks).length->(∀(i:Nat) v u,(Z.pat ks)[i]? = some v->us1[i]? = some u->ae β M A w v u)->ab (Z.pre xs y)->
  Calls P f (us0++us1).toArray w λe w'=>∃σ':Nat->Nat->Prop,e=.returned (.bool (Z.res xs y))/\ExtS w w' (λb=>∃k,k∈ks/\σ k b)/\(∀k,k∈ks->∀b,σ' k b->(∃j,j∈ks/\σ j b)\/w.heap.size<=b/\b<w'.heap.size)/\
   (∀k k',k∈ks->k'∈ks->k≠k'->∀b,σ' k b->¬σ' k' b)/\
   dE (λb=>b<w'.heap.size/\(A b\/(∃j,j∈ks/\σ j b)\/w.heap.size<=b)/\∀k,k∈ks->¬σ' k b) w' β σ' ks Z.os (Z.new xs y)
theorem OI:∀{l:aZ},nR l=true->l.Nodup
 |[],_=>CA
 |k::r,h=>by
  simp only[nR]at h
  cases hi:inN k r with
  |true=>rw[hi]at h;cases h
  |false=>
   rw[hi]at h;refine lG.2 ⟨λhm=>?_,OI h⟩
   have:∀l:List Nat,k∈l->inN k l=true:=λl=>by
    induction l with
    |nil=>intro h;cases h
    |cons j r ih=>
     intro h;simp only[inN]
     cases hb:Nat.beq j k with
     |true=>rfl
     |false=>
      rcases cz.1 h with e|e
      ·subst e;rw[uj]at hb;cases hb
      ·exact ih e
   rw[this r hm]at hi;cases hi
theorem OD(hp:Hp F p M w){A:aT}{N:Mem}(hN:∀j ob,go N j=some ob->go M j=some ob)(hI:∀b,Imm F p M w b->A b)(hW:∀j b,bm N j->p.σ j b->A b):(vs:cf)->(gs:gj)->(ts:ii)->(x:bq ts)->(us:aM)->us.length=vs.length->(∀(i:Nat) v u,vs[i]? = some v->us[i]? = some u->ae p.β M (Imm F p M w) w v u)->shp vs gs=true->kA N vs ts=some x->d5 A w gs ts x us
 |[],[],[],x,us,hl,_,_,h=>by simp only[d5];exact jR (by simpa using hl)
 |[],_::_,_,x,us,hl,_,hs,h=>by simp[shp]at hs
 |[],[],_::_,x,us,hl,_,hs,h=>by simp[kA]at h
 |_::_,[],_,x,us,hl,_,hs,h=>by simp[shp]at hs
 |_::_,_::_,[],x,us,hl,_,hs,h=>by simp[kA]at h
 |v::r,g::gs,t::ts,x,us,hl,hr,hs,h=>by
  simp only[kA]at h;split at h
  ·rename_i y z hy hz;cases h
   cases us with
   |nil=>simp at hl
   |cons u us=>obtain⟨s1,s2⟩:=Jp hs;obtain⟨cs,c1,c2,c3⟩:=AB hp (hr 0 v u rfl rfl) (Og hy);simp only[d5];exact⟨u,us,cs,rfl,λhg=>c1 (s1.trans hg),λhg=>c2 (s1.trans hg),uS hp hN hI hW _ _ _ _ c3 hy,OD hp hN hI hW r gs ts z us (by simpa using hl) (λi v' u' hv' hu'=>hr (i+1) v' u' (by simpa using hv') (by simpa using hu')) s2 hz⟩
  ·cases h
theorem EO{j:Nat}:∀(ks:aZ)(M:Mem)(ob:Ob),go (dx ks M) j=some ob->go M j=some ob/\j∉ks
 |[],M,ob,h=>⟨h,λh=>by cases h⟩
 |k::ks,M,ob,h=>by
  simp only[dx]at h;obtain⟨h1,h2⟩:=EO ks _ ob h;by_cases e:j=k
  ·subst e;rw[eJ]at h1;cases h1
  ·rw[dC e]at h1;exact⟨h1,λhm=>(cz.1 hm).elim e h2⟩
theorem To{Im Im':aT}{β:fD}{σ:jN}:∀(ks:aZ)(os:gS)(xs:d8 os),BT os=true->dE Im w β σ ks os xs->dE Im' w β σ ks os xs
 |[],[],_,_,_=>trivial
 |k::ks,o::os,xs,h,r=>by simp only[BT,aP,ao]at h;simp only[dE]at r⊢;exact⟨uP o h.1 _ _ _ r.1,To ks os xs.2 h.2 r.2⟩
 |[],_::_,_,_,r|_::_,[],_,_,r=>by simp only[dE]at r
theorem Rf{Im Im':aT}{β:fD}{σ:jN}(hI:∀b,Im b->Im' b):∀(ks:aZ)(os:gS)(xs:d8 os),dE Im w β σ ks os xs->dE Im' w β σ ks os xs
 |[],[],_,_=>trivial
 |k::ks,o::os,xs,r=>by simp only[dE]at r⊢;exact⟨Rel.keep (λb hb=>⟨hI b hb,rfl⟩) _ _ _ _ (λ_ _=>rfl) r.1,Rf hI ks os xs.2 r.2⟩
 |[],_::_,_,r|_::_,[],_,r=>by simp only[dE]at r
theorem J5(h:Hp F p M w):∀(ks:aZ)(os:gS)(xs:d8 os),jH M ks os=some xs->dE (Imm F p M w) w p.β p.σ ks os xs/\∀k,k∈ks->bm M k
 |[],[],xs,_=>⟨trivial,λk hk=>by cases hk⟩
 |k::ks,o::os,xs,hg=>by
  simp only[jH]at hg;split at hg
  ·rename_i ob hob;split at hg
   ·rename_i x r hx hr;cases hg;have:=qD hx;subst this;obtain⟨i1,i2⟩:=J5 h ks os r hr;refine⟨⟨h.objs k _ hob,i1⟩,λj hj=>?_⟩;rcases cz.1 hj with e|e
    ·subst e;exact bP hob
    ·exact i2 j e
   ·cases hg
  ·cases hg
 |[],_::_,_,hg|_::_,[],_,hg=>by simp[jH]at hg
theorem RJ{j:Nat}:∀(l:G4) (M:Mem),bm (oq l M) j<->bm M j
 |[],_=>jQ
 |q::r,M=>by simp only[oq];rw[uQ];exact RJ r M
theorem Uo{j:Nat}:∀(l:G4) (M:Mem),(∀q,q∈l->q.1≠j)->go (oq l M) j=go M j
 |[],_,_=>rfl
 |q::r,M,h=>by simp only[oq];rw[iR _ (λe=>h q (gk ..) e.symm),Uo r M (λq hq=>h q (fp _ hq))]
theorem S6:∀(ks:aZ)(os:gS)(xs:d8 os)(q:Nat×O×Ob),q∈upZ ks os xs->q.1∈ks
 |[],os,xs,q,h=>by cases os<;>cases h
 |k::ks,[],xs,q,h=>by cases h
 |k::ks,o::os,xs,q,h=>by
  simp only[upZ]at h;rcases cz.1 h with e|e
  ·subst e;exact gk ..
  ·exact fp _ (S6 ks os xs.2 q e)
theorem JO{Im:aT}{β:fD}{σ:jN}:∀(ks:aZ)(os:gS)(xs zs:d8 os),ks.Nodup->(∀k,k∈ks->bm M k)->jH M ks os=some xs->dE Im w β σ ks os zs->
  ∀k,k∈ks->∃(o:O)(x z:o.strip.den),go M k=some ⟨o,x⟩/\go (oq (upZ ks os zs) M) k=some ⟨o,z⟩/\Rel Im w o z (σ k) [β k]
 |[],_,_,_,_,_,_,_,k,hk=>by cases hk
 |j::ks,[],_,_,_,_,hg,_,_,_=>by simp[jH]at hg
 |j::ks,o::os,xs,zs,hn,hl,hg,hr,k,hk=>by
  simp only[jH]at hg;split at hg
  ·rename_i ob hob;split at hg
   ·rename_i x r hx hr';cases hg;have:=qD hx;subst this;simp only[dE]at hr;obtain⟨n1,n2⟩:=lG.1 hn;by_cases e:k=j
    ·subst e;exact⟨o,x,zs.1,hob,by simp only[upZ,oq];exact lJ _ _ ((RJ _ _).2 (bP hob)),hr.1⟩
    ·obtain⟨o',x',z',a1,a2,a3⟩:=JO ks os r zs.2 n2 (λk hk=>hl k (fp _ hk)) hr' hr.2 k ((cz.1 hk).resolve_left e);exact⟨o',x',z',a1,by simp only[upZ,oq];rw[iR _ e];exact a2,a3⟩
   ·cases hg
  ·cases hg
theorem Ta:∀(ks:aZ)(os:gS)(zs:d8 os),ks.Nodup->ks.length=os.length->∀k π,(V.ref k π).evs (kG (upZ ks os zs))=if k∈ks then (if iI π=true then .ref k π else .any)else .ref k π
 |[],[],_,_,_,k,π=>by simp[upZ,kG,V.evs]
 |[],_::_,_,_,h,_,_|_::_,[],_,_,h,_,_=>by simp at h
 |j::ks,o::os,zs,hn,hl,k,π=>by
  obtain⟨n1,n2⟩:=lG.1 hn;have ih:=Ta ks os zs.2 n2 (by simpa using hl) k π;simp only[upZ,kG,V.evs,V.ev,Ev.ref,cS];by_cases e:k=j
  ·subst e;rw[am rfl,am (gk ..)]
   cases hp:iI π with
   |true=>simp only[aD,dA];rw[ih,aj n1]
   |false=>simp only[bc,d4,pO];exact AY _
  ·rw[aj e,ih];by_cases h:k∈ks
   ·rw[am h,am (fp _ h)]
   ·rw[aj h,aj (λh'=>(cz.1 h').elim e h)]
theorem Ls:∀(ks:aZ)(os:gS)(zs:d8 os),∀k,k∉ks->∀π,(V.ad k π).evs (kG (upZ ks os zs))=.ad k π
 |[],os,_,k,_,π=>by cases os<;>rfl
 |_::_,[],_,k,_,π=>rfl
 |j::ks,o::os,zs,k,hk,π=>by simp only[upZ,kG,V.evs,V.ev,Ev.ad,cS];rw[aj (λe=>hk (by rw[e];exact gk ..))];exact Ls ks os zs.2 k (λh=>hk (fp _ h)) π
theorem SU:∀(ks:aZ)(os:gS)(xs zs:d8 os),ks.Nodup->jH M ks os=some xs->∀k,k∈ks->∀π,(V.ad k π).evs (kG (upZ ks os zs))=.any\/((V.ad k π).evs (kG (upZ ks os zs))=.ad k π/\∃(o:O)(x:o.strip.den)(n:Nat),go M k=some ⟨o,x⟩/\eN π o=some n)
 |[],_,_,_,_,_,k,hk,_=>by cases hk
 |j::ks,[],_,_,_,hg,_,_,_=>by simp[jH]at hg
 |j::ks,o::os,xs,zs,hn,hg,k,hk,π=>by
  simp only[jH]at hg;split at hg
  ·rename_i ob hob;split at hg
   ·rename_i x r hx hr';cases hg;have:=qD hx;subst this;obtain⟨n1,n2⟩:=lG.1 hn;simp only[upZ,kG,V.evs,V.ev,Ev.ad,cS];by_cases e:k=j
    ·subst e;rw[am rfl]
     cases hs:kZ (eN π o) (eN π o)with
     |false=>simp only[bc];exact .inl (AY _)
     |true=>simp only[aD];obtain⟨m,s1,_⟩:=Ef hs;rw[Ls ks os zs.2 k n1];exact .inr ⟨rfl,o,x,m,hob,s1⟩
    ·rw[aj e];exact SU ks os r zs.2 n2 hr' k ((cz.1 hk).resolve_left e) π
   ·cases hg
  ·cases hg
structure UpdX (F:Fr) (p:Ow) (M:Mem) (w w':aQ) (T S':aT) (L:aZ) (σ':jN) (M0 M1:Mem) (e:bM):Prop where
 keys:∀k,k∈L->∃ob ob',go M k=some ob/\go M1 k=some ob'/\Rel (λb=>b<w'.heap.size/\(Imm F p M w b\/T b\/w.heap.size<=b)/\∀i,i∈L->¬σ' i b) w' ob'.o ob'.x (σ' k) [p.β k]
 sub:∀k,k∈L->∀c,σ' k c->(p.σ k c/\¬T c)\/S' c
 dis:∀k k',k∈L->k'∈L->k≠k'->∀c,σ' k c->¬σ' k' c
 rest:∀k,k∉L->go M1 k=go M0 k
 ref:∀k π,(V.ref k π).evs e=if k∈L then (if iI π=true then .ref k π else .any)else .ref k π
 ad:∀k,k∉L->∀π,(V.ad k π).evs e=.ad k π
 adk:∀k,k∈L->∀π,(V.ad k π).evs e=.any\/((V.ad k π).evs e=.ad k π/\∃ob ob' n,go M k=some ob/\go M1 k=some ob'/\eN π ob.o=some n/\eN π ob'.o=some n)
theorem aah(hp:Hp F p M w){L:aZ}{T:aT}(hX:ExtS w w' T)(hT:∀c,T c->∃k,k∈L/\bm M k/\p.σ k c)(hS:∀c,S' c->T c\/w.heap.size<=c/\c<w'.heap.size)(U:UpdX F p M w w' T S' L σ' M M1 e)(hg:vp L=true):∃p',Tr F p M w e p' M1 w'/\∀b,¬p'.L b:=by
 generalize hp':(⟨p.β,λj=>if j∈L then σ' j else p.σ j,λ_=>False⟩:Ow)=p';have hβ:p'.β=p.β:=by rw[←hp']
 have hσ1:∀j,j∈L->p'.σ j=σ' j:=λj hj=>by rw[←hp'];simp[hj]
 have hσ2:∀j,j∉L->p'.σ j=p.σ j:=λj hj=>by rw[←hp'];simp[hj]
 have hL':∀b,¬p'.L b:=by rw[←hp'];exactλb h=>h
 have hlv:∀j,bm M1 j<->bm M j:=λj=>by
  by_cases hj:j∈L
  ·obtain⟨ob,ob',g1,g2,_⟩:=U.keys j hj;exact⟨λ_=>bP g1,λ_=>bP g2⟩
  ·unfold bm;rw[U.rest j hj]
 have hTs:∀j c,j∉L->bm M j->p.σ j c->¬T c:=λj c hj hl hc ht=>by obtain⟨k,k1,k2,k3⟩:=hT c ht;exact hp.sep k j c (λe=>hj (e▸k1)) k2 hl k3 hc
 have hkeep:cE (Imm F p M w) (Imm F p' M1 w') w w':=λb hb=>by
  have hnT:¬T b:=λht=>by obtain⟨k,_,k2,k3⟩:=hT b ht;exact hb.2.2.2 k k2 k3
  refine⟨⟨fF hb.1 hX.size,hb.2.1,hL' b,λj hj=>?_⟩,hX.old b hb.1 hnT⟩;by_cases h:j∈L
  ·rw[hσ1 j h];intro hc;rcases U.sub j h b hc with⟨q,_⟩|q
   ·exact hb.2.2.2 j ((hlv j).1 hj) q
   ·rcases hS b q with q|q
    ·exact hnT q
    ·have:=hb.1;omega
  ·rw[hσ2 j h];exact hb.2.2.2 j ((hlv j).1 hj)
 have hoth:∀j,j∉L->bm M j->∀b,p.σ j b->w'.heap[b]? = w.heap[b]?:=λj hj hl b hb=>hX.old b (hp.own j b hl hb).1 (hTs j b hj hl hb)
 have href:∀k π vs,Ref p.β M w k π vs->ac p'.β M1 (Imm F p' M1 w') w' ((V.ref k π).evs e) vs:=λk π vs r=>by
  rw[U.ref];by_cases h:k∈L
  ·rw[am h]
   cases π with
   |nil=>simp only[iI,dA,ac];obtain⟨o,pl0,k1,k2,k3,k4⟩:=r;simp only[res,aI,bE]at k4;obtain⟨rfl,rfl⟩:=k4;obtain⟨ob,ob',g1,g2,_⟩:=U.keys k h;exact⟨ob',none,g2,by simp only[gok],⟨ob',by simp only[get]⟩,by simp only[res,hβ]⟩
   |cons s ρ=>simp only[iI,d4,pO,ac];exact r.one hp
  ·rw[aj h];simp only[ac];exact r.same hp (U.rest k h) (by rw[hβ]) (hoth k h)
 have had:∀k π v,Adr p.β M w k π v->ac p'.β M1 (Imm F p' M1 w') w' ((V.ad k π).evs e) [v]:=λk π v r=>by
  by_cases h:k∈L
  ·rcases U.adk k h π with he|⟨he,ob,ob',m,g1,g2,s1,s2⟩
   ·rw[he];simp only[ac];intro u hu;rw[cA.1 hu];exact r.one
   ·rw[he];simp only[ac];refine⟨v,rfl,?_⟩;obtain⟨o,us0,b0,off0,k1,k2,k3,k4,k5,rfl⟩:=r;rw[g1]at k1;cases k1;obtain⟨ρ1,o1,rfl,e1,f1⟩:=uN s1;obtain⟨ρ2,o2,e2',e2,f2⟩:=uN s2;simp only[bG,aL]at e2';subst e2';obtain⟨ox,xx⟩:=ob;obtain⟨ox',xx'⟩:=ob';simp only at e1 e2;subst e1 e2;have hr:=hp.objs k _ g1;simp only[Rel]at hr;obtain⟨bb,us1,ty',S1,r1,r2,r3,r4,r5⟩:=hr;simp only[bG,az]at r1;rw[r1]at k5;simp only[res]at k5;obtain⟨_,_,us2,q3⟩:=kr w ρ1 o1 m f1 xx (cellsOf w bb 0 o1.size) (some (bb,0));rw[q3]at k5;simp only[aI,bE]at k5;obtain⟨q1,q2,us3,q3'⟩:=kr w' ρ1 o2 m f2 xx' (cellsOf w' bb 0 o2.size) (some (bb,0));refine⟨_,us3,b0,off0,g2,by simpa only [gok]using q2,by simpa only [get]using q1,by simp only[bV],?_,rfl⟩;rw[hβ,r1];simp only[res];rw[q3',k5.2]
  ·rw[U.ad k h];simp only[ac];exact⟨v,rfl,r.same hp (U.rest k h) (by rw[hβ]) (hoth k h)⟩
 have hin:∀k c,k∈L->σ' k c->∀j,j∉L->bm M j->¬p.σ j c:=λk c hk hc j hj hl hs=>by
  obtain⟨_,_,g1,_⟩:=U.keys k hk;rcases U.sub k hk c hc with⟨q,_⟩|q
  ·exact hp.sep k j c (λe=>hj (e▸hk)) (bP g1) hl q hs
  ·rcases hS c q with q|q
   ·exact hTs j c hj hl hs q
   ·have:=(hp.own j c hl hs).1;omega
 refine⟨p',⟨hkeep,ac.evs hkeep href had,ae.evs hkeep href had,⟨λj o hj=>?_,λj j' b hne hj hj' hb=>?_,λj b hj hb=>?_,λb hb=>(hL' b hb).elim,hX.os.trans hp.os,hX.tape.trans hp.tape,hX.output.trans hp.output,c8 hp.size hX.size,λb hb hR=>?_⟩⟩,hL'⟩
 ·by_cases h:j∈L
  ·obtain⟨ob,ob',g1,g2,g3⟩:=U.keys j h;rw[g2]at hj;cases hj;rw[hβ,hσ1 j h];refine Rel.keep (λb hb=>⟨⟨hb.1,?_,hL' b,λi hi hs=>?_⟩,rfl⟩) _ _ _ _ (λ_ _=>rfl) g3
   ·rcases hb.2.1 with q|q|q
    ·exact q.2.1
    ·obtain⟨i,_,i2,i3⟩:=hT b q;exact (hp.own i b i2 i3).2.elim (λz=>.inr (.inl z.2)) (λz=>.inr z.r)
    ·exact .inr (.inr (c8 hp.size q))
   ·by_cases hiL:i∈L
    ·rw[hσ1 i hiL]at hs;exact hb.2.2 i hiL hs
    ·rw[hσ2 i hiL]at hs;have hli:=(hlv i).1 hi;rcases hb.2.1 with q|q|q
     ·exact q.2.2.2 i hli hs
     ·exact hTs i b hiL hli hs q
     ·have:=(hp.own i b hli hs).1;omega
  ·rw[U.rest j h]at hj;rw[hβ,hσ2 j h];exact Rel.keep hkeep _ _ _ _ (hoth j h (bP hj)) (hp.objs j o hj)
 ·have hj1:=(hlv j).1 hj;have hj2:=(hlv j').1 hj';by_cases h:j∈L
  ·rw[hσ1 j h]at hb;by_cases h':j'∈L
   ·rw[hσ1 j' h'];exact U.dis j j' h h' hne b hb
   ·rw[hσ2 j' h'];exact hin j b h hb j' h' hj2
  ·rw[hσ2 j h]at hb;by_cases h':j'∈L
   ·rw[hσ1 j' h'];exactλhc=>hin j' b h' hc j h hj1 hb
   ·rw[hσ2 j' h'];exact hp.sep j j' b hne hj1 hj2 hb
 ·have hj1:=(hlv j).1 hj;by_cases h:j∈L
  ·rw[hσ1 j h]at hb;rcases U.sub j h b hb with⟨q,_⟩|q
   ·have:=hp.own j b hj1 q;exact⟨fF this.1 hX.size,this.2⟩
   ·rcases hS b q with q|q
    ·obtain⟨k,k1,k2,k3⟩:=hT b q;have:=hp.own k b k2 k3;refine⟨fF this.1 hX.size,?_⟩;rcases this.2 with⟨a1,a2⟩|a1
     ·exact .inl ⟨Jb hg k k1 j h a1,a2⟩
     ·exact .inr a1
    ·exact⟨q.2,.inr (.inl (c8 hp.size q.1))⟩
  ·rw[hσ2 j h]at hb;have:=hp.own j b hj1 hb;exact⟨fF this.1 hX.size,this.2⟩
 ·rw[hX.old b (fF hb hp.size) (λht=>?_)]
  ·exact hp.old b hb hR
  ·obtain⟨k,_,k2,k3⟩:=hT b ht;rcases (hp.own k b k2 k3).2 with⟨_,a2⟩|a1
   ·exact hR a2
   ·exact a1.r.elim hR λh=>aa
theorem TP(hc:xk P f)(hz:ZOk P f Z):aN P f (zCt Z):=by
 refine⟨hc,λF p M w vs us hG h hL hlen hrel hv=>?_⟩;unfold tI at hv⊢;generalize hE:(⟨evZ Z⟩:Orc).ev vs M=E at hv⊢;obtain⟨vc,av,up⟩:=E
 cases up with
 |nil=>exact hv.1.elim
 |cons q r=>
  simp only at hv⊢;change evZ Z vs M=_ at hE;unfold evZ at hE;simp only at hE;generalize hks:Z.key (fe (len Z.as) vs)=ks at hE;generalize hb:aO [shp (cj (len Z.as) vs) (kY Z.as),nR ks,vp ks,mI (fe (len Z.as) vs) (Z.pat ks)]=b at hE
  cases b with
  |false=>simp only[bc,Orr.mk.injEq]at hE;exact absurd hE.2.2 ak
  |true=>
   simp only[aD]at hE;simp only[bH,bJ,bC,ao]at hb;obtain⟨b1,b2,b3,b4⟩:=hb;split at hE
   ·rename_i y xs hy hxs;simp only[Orr.mk.injEq]at hE;obtain⟨rfl,rfl,e3⟩:=hE;rw[←e3];have hpat:=IT _ _ b4;have hnd:=OI b2;obtain⟨hrz,hlv⟩:=J5 h ks Z.os xs hxs;have hkl:=dE.keys _ _ _ hrz;rw[AE,oX]at b1 hy;rw[Eb,oX]at hpat;have hsplit:us=us.take Z.as.length++us.drop Z.as.length:=(jb _ _).symm
    obtain⟨A,hA1,hA2,hA3,hargs,hback⟩:∃A:Nat->Prop,(∀b,Imm F p M w b->A b)/\(∀b,A b->b<w.heap.size)/\(∀k,k∈ks->∀b,p.σ k b->¬A b)/\d5 A w (kY Z.as) Z.as y (us.take Z.as.length)/\
      ∀(w':aQ)(σ':jN)(zs:d8 Z.os),dE (λb=>b<w'.heap.size/\(A b\/(∃j,j∈ks/\p.σ j b)\/w.heap.size<=b)/\∀k,k∈ks->¬σ' k b) w' p.β σ' ks Z.os zs->
       dE (λb=>b<w'.heap.size/\(Imm F p M w b\/(∃j,j∈ks/\p.σ j b)\/w.heap.size<=b)/\∀k,k∈ks->¬σ' k b) w' p.β σ' ks Z.os zs:=by
     have hlen1:(us.take Z.as.length).length=(vs.take Z.as.length).length:=by rw[dW,dW,hlen]
     have hrel1:∀(i:Nat) v u,(vs.take Z.as.length)[i]? = some v->(us.take Z.as.length)[i]? = some u->ae p.β M (Imm F p M w) w v u:=λi v u hv hu=>by
      rw[fE]at hv hu;split at hv
      ·rename_i hi;rw[am hi]at hu;exact hrel i v u hv hu
      ·cases hv
     unfold TC at hy
     cases hfl:Z.fl with
     |false=>rw[hfl]at hy;simp only[bc]at hy;exact⟨Imm F p M w,λ_ h=>h,λb hb=>hb.1,λk hk b hb hi=>hi.2.2.2 k (hlv k hk) hb,Bu h _ _ _ _ _ hlen1 hrel1 b1 hy,λ_ _ _ r=>r⟩
     |true=>
      rw[hfl]at hy;simp only[aD]at hy
      cases haf:BT Z.os with
      |false=>rw[haf]at hy;cases hy
      |true=>
       rw[haf]at hy;simp only[aD]at hy
       refine⟨λb=>Imm F p M w b\/∃j,j∉ks/\bm M j/\p.σ j b,λ_ h=>.inl h,λb hb=>hb.elim (λh=>h.1) (λ⟨j,_,j2,j3⟩=>(h.own j b j2 j3).1),λk hk b hb hi=>hi.elim (λhi=>hi.2.2.2 k (hlv k hk) hb) (λ⟨j,j1,j2,j3⟩=>h.sep k j b (λe=>j1 (e▸hk)) (hlv k hk) j2 hb j3),
        OD h (λj ob hj=>(EO ks M ob hj).1) (λ_ h=>.inl h) (λj b hj hb=>?_) _ _ _ _ _ hlen1 hrel1 b1 hy,λ_ _ _ r=>To _ _ _ haf r⟩
       unfold bm at hj
       cases hg:go (dx ks M) j with
       |none=>rw[hg]at hj;cases hj
       |some ob=>exact .inr ⟨j,(EO ks M ob hg).2,bP (EO ks M ob hg).1,hb⟩
    have hrun:=hz A w p.β M ks p.σ xs y (us.take Z.as.length) (us.drop Z.as.length) (λg hg=>by obtain⟨e1,e2⟩:=AV hG h hL g hg;exact⟨hA1 _ e1,e2⟩) hA2 hnd hxs (λk hk b hb=>⟨(h.own k b (hlv k hk) hb).1,hA3 k hk b hb⟩)
     (λk k' hk hk' hne b hb=>h.sep k k' b hne (hlv k hk) (hlv k' hk') hb) (Rf hA1 _ _ _ hrz) hargs (by rw[←hpat,jw,jw,hlen])
     (λi v u hv hu=>by rw[←hpat,gn]at hv;rw[gn]at hu;exact ae.keep (λb hb=>⟨hA1 b hb,rfl⟩) (λ_ _ _ r=>r) (λ_ _ _ r=>r) _ _ (hrel _ v u hv hu)) hv
    rw[←hsplit]at hrun;refine hrun.mono λe w' ⟨σ',h1,h2,h3,h4,h5⟩=>⟨_,h1,?_⟩;replace h5:=hback w' σ' _ h5;have hlen':=hkl
    obtain⟨p1,t1,l1⟩:=aah (L:=ks) (σ':=σ') (T:=λb=>∃k,k∈ks/\p.σ k b) (S':=λb=>(∃k,k∈ks/\p.σ k b)\/w.heap.size<=b/\b<w'.heap.size) (M1:=oq (upZ ks Z.os (Z.new xs y)) M) (e:=kG (upZ ks Z.os (Z.new xs y))) h h2
     (λc ⟨k,hk,hc⟩=>⟨k,hk,hlv k hk,hc⟩) (λc hc=>hc)
     ⟨λk hk=>by
      obtain⟨o,x,z,a1,a2,a3⟩:=JO ks Z.os xs (Z.new xs y) hnd hlv hxs h5 k hk;exact⟨_,_,a1,a2,a3⟩,
      λk hk c hc=>.inr (h3 k hk c hc),h4,
      λk hk=>Uo _ _ λq hq e=>hk (e▸S6 _ _ _ q hq),
      Ta ks Z.os _ hnd hlen',Ls ks Z.os _,λk hk π=>by
      rcases SU ks Z.os xs (Z.new xs y) hnd hxs k hk π with a|⟨a,o,x,n,c1,c2⟩
      ·exact .inl a
      ·obtain⟨o',x',z',d1,d2,_⟩:=JO ks Z.os xs (Z.new xs y) hnd hlv hxs h5 k hk;rw[c1]at d1;cases d1;exact .inr ⟨a,_,_,n,c1,d2,c2,c2⟩⟩ b3
    refine⟨p1,t1,l1,?_,λhfr _=>?_⟩
    ·rw[bp];simp only[ai]
    ·rw[e3]at hfr;simp[kG,fresh]at hfr
   ·simp only[Orr.mk.injEq]at hE;exact absurd hE.2.2 ak
def da:Nat->Nat->List Nat
 |0,_=>[]
 |n+1,k=>k::da n (Nat.succ k)
def z0:Nat:=999900
def nd:List Nat->(os:gS)->d8 os->Mem
 |k::ks,o::os,x=>(k,⟨o,x.1⟩)::nd ks os x.2
 |_,_,_=>[]
def okZ:(os:gS)->d8 os->List Prop
 |[],_=>[]
 |o::os,x=>ap (o.strip.oks x.1) (okZ os x.2)
def Bg(env:Env):Nat->List V->List V
 |_,[]=>[]
 |n,_::r=>gt env n::Bg env (Nat.succ n) r
def rO:Nat->List V->List Nat
 |_,[]=>[]
 |n,_::r=>n::rO (Nat.succ n) r
def yE:V->Bool
 |.ad _ _|.bx _|.fn _ _=>true
 |_=>false
def nq(f:V->Bool):List V->Bool
 |[]=>true
 |v::r=>nob (f v) (nq f r)
def K3(B:Tab)(rs:List ResultVar)(Z:Wz)(K:d8 Z.os->Bool->Prop)(env:Env)(M:Mem):Prop:=
 match rs with
 |[r]=>(match y4 B env M r with
  |some (.d .bool b)=>bif mI (Bg env (len Z.as) (Z.pat (da (len Z.os) z0))) (Z.pat (da (len Z.os) z0))then
    (match jH M (da (len Z.os) z0) Z.os with
    |some zs=>K zs b
    |none=>False)else False
  |_=>False)
 |_=>False
def endZ(B:Tab)(rs:List ResultVar)(Z:Wz)(K:d8 Z.os->Bool->Prop):Ex->Env->Mem->Prop
 |.ex _,_,_|.go _,_,_=>False
 |.nm,env,M|.rt,env,M=>K3 B rs Z K env M
def vP(B:Tab)(Φ:du)(cut:ju)(fn:Func)(c:jv)(A:Ann)(Z:Wz)(xs:d8 Z.os)(y:bq Z.as)(K:d8 Z.os->Bool->Prop):Prop:=ev B Φ cut c A (endZ B (toL fn.results) Z K) (js 0 (ap (dr B (cj (len Z.as) (toL fn.params)) Z.as y) (Z.pat (da (len Z.os) z0)))) (nd (da (len Z.os) z0) Z.os xs)
def rho:List Nat->List Nat->Nat->Nat->Nat
 |i::is,k::ks,big,j=>if j=i then k else rho is ks big j
 |_,_,big,_=>big
theorem Sd:∀(n k j:Nat),j∈da n k->k<=j
 |0,_,_,h=>by cases h
 |n+1,k,j,h=>by
  rcases cz.1 h with e|e
  ·omega
  ·have:=Sd n _ j e;omega
theorem Ps:∀(n k:Nat),(da n k).Nodup
 |0,_=>CA
 |n+1,k=>lG.2 ⟨λh=>by have:=Sd n _ _ h;omega,Ps n _⟩
theorem RA:∀(n k:Nat),(da n k).length=n
 |0,_=>rfl
 |n+1,k=>by simp[da,RA n]
theorem Kz{big:Nat}:∀(is ks:aZ),is.Nodup->is.length=ks.length->is.map (rho is ks big)=ks
 |[],[],_,_=>rfl
 |[],_::_,_,h|_::_,[],_,h=>by simp at h
 |i::is,k::ks,hn,h=>by obtain⟨n1,n2⟩:=lG.1 hn;simp only[iN,rho,dA];congr 1;rw[←Kz (big:=big) is ks n2 (by simpa using h)];refine List.map_congr_left λj hj=>?_;rw[aj (λe=>n1 (by rw[←e];exact hj)),Kz (big:=big) is ks n2 (by simpa using h)]
theorem E0{big:Nat}:∀(is ks:aZ)(j:Nat),is.length=ks.length->j∈is->rho is ks big j∈ks
 |[],_,_,_,h=>by cases h
 |i::is,[],_,h,_=>by simp at h
 |i::is,k::ks,j,h,hj=>by
  simp only[rho];by_cases e:j=i
  ·rw[am e];exact gk ..
  ·rw[aj e];exact fp _ (E0 is ks j (by simpa using h) ((cz.1 hj).resolve_left e))
theorem RO{big:Nat}:∀(is ks:aZ)(j j':Nat),ks.Nodup->is.length=ks.length->j∈is->j'∈is->rho is ks big j=rho is ks big j'->j=j'
 |[],_,_,_,_,_,h,_,_=>by cases h
 |i::is,[],_,_,_,h,_,_,_=>by simp at h
 |i::is,k::ks,j,j',hn,h,hj,hj',e=>by
  obtain⟨n1,n2⟩:=lG.1 hn;simp only[rho]at e;by_cases a:j=i
  ·by_cases b:j'=i
   ·rw[a,b]
   ·rw[am a,aj b]at e;exact absurd (e▸E0 is ks j' (by simpa using h) ((cz.1 hj').resolve_left b)) n1
  ·by_cases b:j'=i
   ·rw[aj a,am b]at e;exact absurd (e▸E0 is ks j (by simpa using h) ((cz.1 hj).resolve_left a)) n1
   ·rw[aj a,aj b]at e;exact RO is ks j j' n2 (by simpa using h) ((cz.1 hj).resolve_left a) ((cz.1 hj').resolve_left b) e
theorem Tb{M:Mem}{big:Nat}(hb:go M big=none):∀(is ks:aZ)(os:gS)(xs:d8 os),jH M ks os=some xs->is.length=ks.length->∀j ob,go M (rho is ks big j)=some ob->go (nd is os xs) j=some ob
 |[],ks,os,xs,_,_,j,ob,h=>by simp only[rho]at h;rw[hb]at h;cases h
 |i::is,[],_,_,_,h,_,_,_=>by simp at h
 |i::is,k::ks,[],_,hg,_,_,_,_=>by simp[jH]at hg
 |i::is,k::ks,o::os,xs,hg,hl,j,ob,h=>by
  simp only[jH]at hg;split at hg
  ·rename_i ob' hob;split at hg
   ·rename_i x r hx hr;cases hg;have:=qD hx;subst this;simp only[rho]at h;simp only[nd,cJ];by_cases e:j=i
    ·rw[am e]at h;rw[am e.symm,←hob];exact h
    ·rw[aj e]at h;rw[aj (λe'=>e e'.symm)];exact Tb hb is ks os r hr (by simpa using hl) j ob h
   ·cases hg
  ·cases hg
theorem Py{Im:aT}{w:aQ}{β:fD}{σ:jN}{big:Nat}:∀(is ks:aZ)(os:gS)(xs:d8 os),is.length=ks.length->dE Im w β σ ks os xs->∀j ob,go (nd is os xs) j=some ob->j∈is/\Rel Im w ob.o ob.x (σ (rho is ks big j)) [β (rho is ks big j)]
 |[],_,os,_,_,_,j,ob,h=>by cases os<;>simp[nd,go]at h
 |i::is,[],_,_,h,_,_,_,_=>by simp at h
 |i::is,k::ks,[],_,_,hr,_,_,_=>by simp only[dE]at hr
 |i::is,k::ks,o::os,xs,hl,hr,j,ob,h=>by
  simp only[dE]at hr;simp only[nd,cJ]at h;simp only[rho];by_cases e:j=i
  ·rw[am e.symm]at h;cases h;rw[am e];exact⟨e▸gk ..,hr.1⟩
  ·rw[aj (λe'=>e e'.symm)]at h;rw[aj e];obtain⟨a,b⟩:=Py (big:=big) is ks os xs.2 (by simpa using hl) hr.2 j ob h;exact⟨fp _ a,b⟩
theorem Pc{os:gS}{xs:d8 os}:∀(is:aZ)(os:gS)(xs:d8 os),is.length=os.length->∀j,j∈is->bm (nd is os xs) j
 |[],_,_,_,_,h=>by cases h
 |i::is,[],_,h,_,_=>by simp at h
 |i::is,o::os,xs,h,j,hj=>by
  unfold bm;simp only[nd,cJ];by_cases e:i=j
  ·rw[am e];rfl
  ·rw[aj e];exact Pc (os:=os) (xs:=xs.2) is os xs.2 (by simpa using h) j ((cz.1 hj).resolve_left (λe'=>e e'.symm))
theorem OH{Im Im':aT}{w:aQ}{β1 β:fD}{σ1 σ':jN}{ρ:ju}(hI:∀b,Im b->Im' b):∀(is:aZ)(os:gS)(zs:d8 os),(∀j,j∈is->β1 j=β (ρ j)/\σ1 j=σ' (ρ j))->dE Im w β1 σ1 is os zs->dE Im' w β σ' (is.map ρ) os zs
 |[],[],_,_,_=>trivial
 |[],_::_,_,_,r|_::_,[],_,_,r=>by simp only[dE]at r
 |i::is,o::os,zs,h,r=>by simp only[dE,iN]at r⊢;obtain⟨h1,h2⟩:=h i (gk ..);exact⟨by rw[←h1,←h2];exact Rel.keep (λb hb=>⟨hI b hb,rfl⟩) _ _ _ _ (λ_ _=>rfl) r.1,OH hI is os zs.2 (λj hj=>h j (fp _ hj)) r.2⟩
theorem QV{Im:aT}{w:aQ}{β:fD}{σ:jN}:∀(ks:aZ)(os:gS)(xs:d8 os),dE Im w β σ ks os xs->ab (okZ os xs)
 |[],[],_,_=>trivial
 |k::ks,o::os,xs,r=>by simp only[dE]at r;simp only[okZ,fO];have h1:=Rel.frz (Im':=λ_=>True) (λ_ _=>trivial) o xs.1 (σ k) [β k] (λ_ _=>trivial) r.1;exact⟨kN _ _ (ai.ok _ _ _ h1),QV ks os xs.2 r.2⟩
 |[],_::_,_,r|_::_,[],_,r=>by simp only[dE]at r
theorem ZJ:∀M:Mem,∃big,go M big=none:=λM=>by
 have:∀M:Mem,∃n,∀k,n<=k->go M k=none:=λM=>by
  induction M with
  |nil=>exact⟨0,λ_ _=>rfl⟩
  |cons q r ih=>obtain⟨n,hn⟩:=ih;refine⟨n+q.1+1,λk hk=>?_⟩;obtain⟨i,x⟩:=q;rw[cJ,aj (by simp only at hk;omega)];exact hn k aa
 obtain⟨n,hn⟩:=this M;exact⟨n,hn n (bd _)⟩
theorem uZ{f:V->Bool}:∀(l:cf)(i:Nat)(v:V),nq f l=true->l[i]? = some v->f v=true
 |[],_,_,_,h=>by simp at h
 |x::r,0,v,h,e=>by simp only[nq,aP,ao]at h;simp only[iz,aI]at e;subst e;exact h.1
 |x::r,i+1,v,h,e=>by simp only[nq,aP,ao]at h;exact uZ r i v h.2 (by simpa using e)
theorem QT{f:V->Bool}:∀(l:cf),BW f l=true->∃(i:Nat)(v:V),l[i]? = some v/\f v=true
 |[],h=>by cases h
 |x::r,h=>by
  simp only[BW,eX,e9]at h;rcases h with h|h
  ·exact⟨0,x,rfl,h⟩
  ·obtain⟨i,v,h1,h2⟩:=QT r h;exact⟨i+1,v,by simpa using h1,h2⟩
theorem Rp:∀(ks:aZ)(vs:cf),yx ks vs=true->∀k,k∈ks->BW (pq k) vs=true
 |[],_,_,_,h=>by cases h
 |j::ks,vs,h,k,hk=>by
  simp only[yx,aP,ao]at h;rcases cz.1 hk with e|e
  ·subst e;exact h.1
  ·exact Rp ks vs h.2 k e
theorem Qs{env:Env}:∀(n:Nat)(l:cf)(i:Nat),i<l.length->(Bg env n l)[i]? = some (gt env (n+i))
 |_,[],_,h=>by simp at h
 |n,v::r,0,_=>rfl
 |n,v::r,i+1,h=>by simp only[Bg,lC];rw[Qs (Nat.succ n) r i (by simpa using h)];congr 2;omega
theorem QW:∀(n:Nat)(l:cf)(i:Nat),i<l.length->hY (n+i) (rO n l)=true
 |_,[],_,h=>by simp at h
 |n,v::r,0,_=>by simp[rO,hY]
 |n,v::r,i+1,h=>by have:=QW (Nat.succ n) r i (by simpa using h);rw[show n+(i+1)=Nat.succ n+i by omega];simp only[rO,hY];rw[this];simp
theorem Oh:∀(l:cf),mI l l=true->nq (λv=>eZ v v) l=true
 |[],_=>rfl
 |v::r,h=>by simp only[mI,aP,ao]at h;simp only[nq,aP,ao];exact⟨h.1,Oh r h.2⟩
theorem JC(h:yE v=true):ae β M Im w v u<->ac β M Im w v [u]:=by
 cases v with
 |ad _ _|bx _|fn _ _=>simp only[ae]
 |_=>cases h
theorem ac9(h:yE v=true):yE (iW ρ v)=true:=by cases v<;>first|rfl|cases h
theorem z_of (hΦ : fR P Φ) (hB : TabOk P B) (hmix : P.follows .mixedOrders = true)    (hf : P.funcs[f]? = some fn) (hb : fn.body = some c) (hn : (fn.name == "runtime.NumGoroutine") = false) (Z : Wz) (A : Ann) (cut : Nat -> Nat)
  (hpat:∀ρ:Nat->Nat,Z.pat ((da (len Z.os) z0).map ρ)=(Z.pat (da (len Z.os) z0)).map (iW ρ)) (hvs:mI (Z.pat (da (len Z.os) z0)) (Z.pat (da (len Z.os) z0))=true) (hwf:nq wfV (Z.pat (da (len Z.os) z0))=true) (hone:nq yE (Z.pat (da (len Z.os) z0))=true) (hocc:yx (da (len Z.os) z0) (Z.pat (da (len Z.os) z0))=true)
  (hga:kY Z.as=(cj (len Z.as) (toL fn.params)).map (λq=>(B.τ q).agg)) (hck:okC fn.ntmps cut c=true) (hnt:Z.as.length+(Z.pat (da (len Z.os) z0)).length<=fn.ntmps) (hnw:noW (rO (len Z.as) (Z.pat (da (len Z.os) z0))) c=true)
  (hw:∀xs y,ab (okZ Z.os xs)->ab (okL Z.as y)->ab (Z.pre xs y)->vP B Φ cut fn c A Z xs y (λzs b=>zs=Z.new xs y/\b=Z.res xs y)):aN P f (zCt Z):=by
 refine TP (qA hf hb hn) λAb w β M ks σ xs y us0 us1 hE hAlt hnd hgz hS hdis hrz hargs hl1 hr1 hpre=>?_;have hkl:=dE.keys _ _ _ hrz;generalize hids:da (len Z.os) z0=ids at hpat hvs hwf hone hocc hnt hnw;have hidn:ids.Nodup:=by rw[←hids];exact Ps _ _
 have hidl:ids.length=Z.os.length:=by rw[←hids,RA,oX]
 obtain⟨big,hbig⟩:=ZJ M;have hil:ids.length=ks.length:=aa
 have hkm:=Kz (big:=big) ids ks hidn hil;generalize hρ:rho ids ks big=ρ at hkm;have hrg:∀j ob,go M (ρ j)=some ob->go (nd ids Z.os xs) j=some ob:=by rw[←hρ];exact Tb hbig ids ks Z.os xs hgz hil
 have hmr:∀j ob,go (nd ids Z.os xs) j=some ob->j∈ids/\Rel Ab w ob.o ob.x (σ (ρ j)) [β (ρ j)]:=by rw[←hρ];exact Py ids ks Z.os xs hil hrz
 have hrm:∀j,j∈ids->ρ j∈ks:=by rw[←hρ];exactλj hj=>E0 ids ks j hil hj
 have hri:∀j j',j∈ids->j'∈ids->ρ j=ρ j'->j=j':=by rw[←hρ];exactλj j'=>RO ids ks j j' hnd hil
 have hks:∀k,k∈ks->∃j,j∈ids/\ρ j=k:=λk hk=>by rw[←hkm]at hk;exact fX.1 hk
 have hpatk:Z.pat ks=(Z.pat ids).map (iW ρ):=by rw[←hkm];exact hpat ρ
 have hmlive:=Pc (os:=Z.os) (xs:=xs) ids Z.os xs hidl;have he:=hw xs y (QV _ _ _ hrz);unfold vP at he;rw[hids]at he;generalize hM0:nd ids Z.os xs=M0 at hrg hmr hmlive he
 have hlv:∀j,bm M0 j->j∈ids:=λj hj=>by
  unfold bm at hj
  cases hg:go M0 j with
  |none=>rw[hg]at hj;cases hj
  |some ob=>exact (hmr j ob hg).1
 rw[oX]at hnw;have hlu:us1.length=(Z.pat ids).length:=by rw[hl1,hpatk,cC]
 let a0:Act:={ tmps:=(us0++us1).toArray++Array.replicate (fn.ntmps-(us0++us1).toArray.size) undef,defers:=[] }
 let F:Fr:=⟨w,w,Ab,λb=>∃k,k∈ks/\σ k b,λ_=>False,fn.ntmps,jI (λ_=>none) (rO Z.as.length (Z.pat ids)) a0,True⟩
 let p0:Ow:=⟨λi=>β (ρ i),λi=>σ (ρ i),λ_=>False⟩
 have himm:∀b,Ab b->Imm F p0 M0 w b:=λb hb=>⟨hAlt b hb,.inl hb,λh=>h,λk hk hs=>(hS _ (hrm k (hlv k hk)) b hs).2 hb⟩;obtain⟨l1,l2,l3,l4⟩:=uO (B:=B) (β:=p0.β) (M:=M0) himm (kY Z.as) Z.as y us0 hargs (cj (len Z.as) (toL fn.params)) 0 (by rw[hga];exact (qS _).symm)
 have hfl:(kY Z.as).length=Z.as.length:=by
  have:∀l:List T,(kY l).length=l.length:=λl=>by
   induction l with
   |nil=>rfl
   |cons t r ih=>simp[kY,ih]
  exact this _
 rw[hfl]at l1 l2;have he:=he l3 hpre;have hszl:(us0++us1).length<=fn.ntmps:=by rw[bn];omega
 have hsz:a0.tmps.size=fn.ntmps:=by simp[a0];omega
 have hget:∀t,t<(us0++us1).length->a0.tmps.getD t undef=(us0++us1).getD t undef:=λt ht=>by simp only[a0];rw[we,wd (by simpa using ht)];simp[br]
 have hp0:Hp F p0 M0 w:=⟨λk ob hk=>Rel.keep (λb hb=>⟨himm b hb,rfl⟩) _ _ _ _ (λ_ _=>rfl) (hmr k ob hk).2,
  λk k' b hne hk hk' hb=>hdis _ _ (hrm k (hlv k hk)) (hrm k' (hlv k' hk')) (λe=>hne (hri k k' (hlv k hk) (hlv k' hk') e)) b hb,
  λk b hk hs=>⟨(hS _ (hrm k (hlv k hk)) b hs).1,.inr (.inr ⟨trivial,_,hrm k (hlv k hk),hs⟩)⟩,λb hb=>hb.elim,rfl,⟨rfl,bd _⟩,rfl,bd _,λb _ _=>rfl⟩
 have hsame:=Oh _ hvs;have hpats:∀(i:Nat) v u,(Z.pat ids)[i]? = some v->us1[i]? = some u->ac p0.β M0 (Imm F p0 M0 w) w v [u]:=λi v u hv hu=>by have h1:=hr1 i (iW ρ v) u (by rw[hpatk,gJ,hv];rfl) hu;have h2:=(JC (ac9 (uZ _ i v hone hv))).1 h1;exact AQ hrg himm v [u] (uZ (f:=λv=>eZ v v) _ i v hsame hv) h2
 have hst:St F p0 (js 0 (ap (dr B (cj (len Z.as) (toL fn.params)) Z.as y) (Z.pat ids))) M0 a0 w:=by
  refine⟨rfl,hsz,λt v ht=>?_,λb hb=>hb.elim,λb hb=>hb,λt=>?_,hp0⟩
  ·simp only[F,jI]at ht
   cases hm:hY t (rO Z.as.length (Z.pat ids))with
   |true=>rw[hm]at ht;simpa using ht
   |false=>rw[hm]at ht;cases ht
  ·rw[x5];simp only[fV,dA,vZ,eL];by_cases h1:t<Z.as.length
   ·rw[fT aa,hget t (by rw[bn];omega),br,fT aa];have e1:=bU (l:=dr B (cj (len Z.as) (toL fn.params)) Z.as y) (i:=t) aa;have e2:=bU (l:=us0) (i:=t) aa;rw[e1,e2];exact l4 t _ _ e1 e2
   ·rw[g9 aa,l2]
    cases hx:(Z.pat ids)[t-Z.as.length]? with
    |none=>simp only[pM,ae]
    |some v=>have ht:=(gp.1 hx).1;have e2:=bU (l:=us1) (i:=t-Z.as.length) aa;rw[hget t (by rw[bn];omega),br,g9 aa,l1,e2];simp only[gA];exact (JC (uZ _ _ v hone hx)).2 (hpats _ v _ hx e2)
 refine zh hf hb (oC (λe a' w' he=>?_) (k9 hΦ hB hmix cut c F (hE.of λb hb _=>⟨⟨hb,λ⟨k,hk,hs⟩=>(hS k hk b hs).2 hb⟩,rfl⟩) A _ _ _ hck (nF c hnw (q8 c)) he p0 _ w hst))
 have key:∀p env M1,St F p env M1 a' w'->K3 B (toL fn.results) Z (λzs b=>zs=Z.new xs y/\b=Z.res xs y) env M1->(e=.normal\/e=.ret)->bodyPost P fn (λe w'=>∃σ':Nat->Nat->Prop,e=.returned (.bool (Z.res xs y))/\ExtS w w' (λb=>∃k,k∈ks/\σ k b)/\(∀k,k∈ks->∀b,σ' k b->(∃j,j∈ks/\σ j b)\/w.heap.size<=b/\b<w'.heap.size)/\
   (∀k k',k∈ks->k'∈ks->k≠k'->∀b,σ' k b->¬σ' k' b)/\
   dE (λb=>b<w'.heap.size/\(Ab b\/(∃j,j∈ks/\σ j b)\/w.heap.size<=b)/\∀k,k∈ks->¬σ' k b) w' β σ' ks Z.os (Z.new xs y)) e a' w':=by
  intro p env M1 hs hr hee;unfold K3 at hr;rw[hids]at hr;split at hr
  ·rename_i r hrs;split at hr
   ·rename_i b hrv
    cases hvl:mI (Bg env (len Z.as) (Z.pat ids)) (Z.pat ids)with
    |false=>rw[hvl]at hr;exact hr.elim
    |true=>
     rw[hvl]at hr;simp only[aD]at hr;split at hr
     ·rename_i zs hzs;obtain⟨rfl,hbe⟩:=hr;have hsl:=IT _ _ hvl;obtain⟨u,u1,u2⟩:=JM (P:=P) (a:=a') hB hs.hp hs.slots r _ hrv;rw[bp,gY]at u2;subst u2;have hrun:(results fn a'.tmps).run P w'=.ok (.bool b) w':=by rw[A4,zj];rw[cK]at hrs;rw[hrs];simp only[C0,List.mapM_nil,fW,zk,u1,il,lD];simp
      have hRold:∀c,Imm F p0 M0 w c->w'.heap[c]? = w.heap[c]?:=λc hc=>hs.hp.old c hc.1 λ⟨k,hk,hsk⟩=>by obtain⟨j,hj,rfl⟩:=hks k hk;exact hc.2.2.2 j (hmlive j hj) hsk
      have adr:∀{p:Ow} {M:Mem} {w:aQ},Hp F p M w->∀k u,Adr p.β M w k [.de] u->u=p.β k:=λhp k u hu=>by have hu':=hu;obtain⟨ob,_,_,_,hg,_⟩:=hu;exact AL hp hg (v0:=.ad k [.de]) rfl (e:=[]) rfl (by simp only[V.evs,ae,ac];exact⟨u,rfl,hu'⟩)
      have hβ:∀j,j∈ids->p.β j=β (ρ j):=λj hj=>by
       obtain⟨i,v,hv,ho⟩:=QT _ (Rp _ _ hocc j hj);have hi:=(gp.1 hv).1;have e2:=bU (l:=us1) (i:=i) aa;have r1:=hpats i v _ hv e2;have r2:=hs.slots (Z.as.length+i);have e3:gt env (Z.as.length+i)=v:=by have:=Qs (env:=env) (len Z.as) (Z.pat ids) i hi;rw[hsl,hv,oX]at this;exact (se this).symm
       have e4:a'.tmps.getD (Z.as.length+i) undef=us1[i]:=by
        have hfv:F.fv (Z.as.length+i)=some (a0.tmps.getD (Z.as.length+i) undef):=by simp only[F,jI,QW Z.as.length (Z.pat ids) i hi,aD]
        rw[hs.fix _ _ hfv,hget _ (by rw[bn];omega),br,g9 aa,l1,Cx,e2];rfl
       rw[e3,e4]at r2;have r2:=(JC (uZ _ i v hone hv)).1 r2;exact (pin (adr hp0) (adr hs.hp) hRold v _ (uZ (f:=λv=>eZ v v) _ i v hsame hv) (uZ _ i v hwf hv) r1 r2 j ho).symm
      obtain⟨q1,q2⟩:=J5 hs.hp ids Z.os _ hzs
      have hreg:∀j,j∈ids->∀c,p.σ j c->((∃k,k∈ks/\σ k c)\/w.heap.size<=c/\c<w'.heap.size):=λj hj c hc=>by
       have:=hs.hp.own j c (q2 j hj) hc;rcases this.2 with⟨_,h1⟩|h1
       ·exact .inl h1
       ·exact h1.elim (λh1=>.inr ⟨h1,this.1⟩) (λh1=>.inl h1.2)
      have hpost:∃σ':Nat->Nat->Prop,Ending.returned (.bool b)=.returned (.bool (Z.res xs y))/\ExtS w w' (λb=>∃k,k∈ks/\σ k b)/\(∀k,k∈ks->∀b,σ' k b->(∃j,j∈ks/\σ j b)\/w.heap.size<=b/\b<w'.heap.size)/\
        (∀k k',k∈ks->k'∈ks->k≠k'->∀b,σ' k b->¬σ' k' b)/\
        dE (λb=>b<w'.heap.size/\(Ab b\/(∃j,j∈ks/\σ j b)\/w.heap.size<=b)/\∀k,k∈ks->¬σ' k b) w' β σ' ks Z.os (Z.new xs y):=by
       refine⟨λk c=>∃j,j∈ids/\ρ j=k/\p.σ j c,by rw[hbe],⟨hs.hp.os,hs.hp.tape,hs.hp.output,hs.hp.size,λc hc hn=>hs.hp.old c hc hn⟩,λk _ c ⟨j,hj,_,hc⟩=>hreg j hj c hc,λk k' _ _ hne c ⟨j,hj,ej,hc⟩ ⟨j',hj',ej',hc'⟩=>?_,?_⟩
       ·refine hs.hp.sep j j' c (λe=>hne ?_) (q2 j hj) (q2 j' hj') hc hc';rw[←ej,←ej',e]
       ·rw[←hkm];refine OH (λc hc=>⟨hc.1,by rw[hkm];exact hc.2.1,λk _ ⟨j,hj,_,hs'⟩=>hc.2.2.2 j (q2 j hj) hs'⟩) ids Z.os _ (λj hj=>⟨hβ j hj,?_⟩) q1
        funext c
        exact propext ⟨λh=>⟨j,hj,rfl,h⟩,λ⟨j',hj',e,h⟩=>hri j' j hj' hj e▸h⟩
      rcases hee with rfl|rfl
      ·exact⟨hs.defers,_,hrun,hpost⟩
      ·exact⟨hs.defers,_,hrun,hpost⟩
     ·exact hr.elim
   ·exact hr.elim
  ·exact hr.elim
 cases e with
 |normal=>obtain⟨p,env,M,h1,h2⟩:=he;exact key p env M h1 h2 (.inl rfl)
 |ret=>obtain⟨p,env,M,h1,h2⟩:=he;exact key p env M h1 h2 (.inr rfl)
 |exit id|goto l=>obtain⟨p,env,M,h1,h2⟩:=he;exact h2.elim
 |panic ch|outgrown=>exact he.elim
theorem LO (hΦ : fR P Φ) (hB : TabOk P B) (hmix : P.follows .mixedOrders = true)    (hf : P.funcs[f]? = some fn) (hb : fn.body = some c) (hn : (fn.name == "runtime.NumGoroutine") = false) (Z : Wz) (A : Ann) (cut : Nat -> Nat)
  (hpat:∀ρ:Nat->Nat,Z.pat ((da (len Z.os) z0).map ρ)=(Z.pat (da (len Z.os) z0)).map (iW ρ)) (hvs:mI (Z.pat (da (len Z.os) z0)) (Z.pat (da (len Z.os) z0))=true) (hwf:nq wfV (Z.pat (da (len Z.os) z0))=true) (hone:nq yE (Z.pat (da (len Z.os) z0))=true) (hocc:yx (da (len Z.os) z0) (Z.pat (da (len Z.os) z0))=true)
  (hga:kY Z.as=(cj (len Z.as) (toL fn.params)).map (λq=>(B.τ q).agg)) (hck:okC fn.ntmps cut c=true) (hnt:Z.as.length+(Z.pat (da (len Z.os) z0)).length<=fn.ntmps) (hnw:noW (rO (len Z.as) (Z.pat (da (len Z.os) z0))) c=true)
  (Wf:d8 Z.os->bq Z.as->(d8 Z.os->Bool->Prop)->Prop) (he:∀xs y K,vP B Φ cut fn c A Z xs y K=Wf xs y K) (hw:∀xs y,ab (okZ Z.os xs)->ab (okL Z.as y)->ab (Z.pre xs y)->Wf xs y (λzs b=>zs=Z.new xs y/\b=Z.res xs y)):aN P f (zCt Z):=
 z_of hΦ hB hmix hf hb hn Z A cut hpat hvs hwf hone hocc hga hck hnt hnw λxs y h1 h2 h3=>(he xs y _).mpr (hw xs y h1 h2 h3)
def zT(Z:Wz)(fn:Func)(c:jv):Bool:=mI (Z.pat (da (len Z.os) z0)) (Z.pat (da (len Z.os) z0))&&(nq wfV (Z.pat (da (len Z.os) z0))&&(nq yE (Z.pat (da (len Z.os) z0))&&(yx (da (len Z.os) z0) (Z.pat (da (len Z.os) z0))&&(Nat.ble (Z.as.length+(Z.pat (da (len Z.os) z0)).length) fn.ntmps&&noW (rO (len Z.as) (Z.pat (da (len Z.os) z0))) c))))
theorem afd (hΦ : fR P Φ) (hB : TabOk P B) (hmix : P.follows .mixedOrders = true)    (hf : P.funcs[f]? = some fn) (hb : fn.body = some c) (hn : (fn.name == "runtime.NumGoroutine") = false) (Z : Wz) (A : Ann) (cut : Nat -> Nat)
  (hpat:∀ρ:Nat->Nat,Z.pat ((da (len Z.os) z0).map ρ)=(Z.pat (da (len Z.os) z0)).map (iW ρ))
  (hga:kY Z.as=(cj (len Z.as) (toL fn.params)).map (λq=>(B.τ q).agg)) (hck:okC fn.ntmps cut c=true) (h:zT Z fn c=true)
  (Wf:d8 Z.os->bq Z.as->(d8 Z.os->Bool->Prop)->Prop) (he:∀xs y K,vP B Φ cut fn c A Z xs y K=Wf xs y K) (hw:∀xs y,ab (okZ Z.os xs)->ab (okL Z.as y)->ab (Z.pre xs y)->Wf xs y (λzs b=>zs=Z.new xs y/\b=Z.res xs y)):aN P f (zCt Z):=by
 simp only[zT,ao]at h;exact LO hΦ hB hmix hf hb hn Z A cut hpat h.1 h.2.1 h.2.2.1 h.2.2.2.1 hga hck (eU h.2.2.2.2.1) h.2.2.2.2.2 Wf he hw
theorem ady(hc:xk P f)(h:∀xs y,¬ab (Z.pre xs y)):aN P f (zCt Z):=TP hc λ_ _ _ _ _ _ xs y _ _ _ _ _ _ _ _ _ _ _ _ hp=>absurd hp (h xs y)
end Go.Bm
