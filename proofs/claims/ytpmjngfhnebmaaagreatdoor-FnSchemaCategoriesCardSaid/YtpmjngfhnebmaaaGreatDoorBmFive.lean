/- The typed machine that the walks of this claim go by: its data, its operations and the proof that each is sound. No condition. -/
import Derived.Test.YtpmjngfhnebmaaaGreatDoorBmFour
import Derived.Scope
import Derived.OpenShut
import Derived.ChangeSlices
import Derived.SizedLaws
import Derived.Below
import Derived.ProofKit
import Derived.ShutString
import Derived.ChangeOld
set_option linter.unusedVariables false
set_option linter.unusedSimpArgs false
set_option linter.unusedSectionVars false
namespace Go.Bm
open Go.RowKit
abbrev Cc:=@Array.mapM_eq_mapM_toList
abbrev yX:=@List.all_append
abbrev oX:=@List.all_cons
abbrev cB:=@Int.le_refl
abbrev Cd:=@of_decide_eq_false
abbrev LX:Type:=(Int×Unit)×Unit->((Int×Unit)×Unit->Prop)->Prop
variable {B:Tab}{Ds ga:fw}{F:Fr}{H S α:Type}{Im Im':aT}{K:Env->Mem->Prop}{L:gg}{M M' M'':Mem}{P:d4}{Q:gL}{W w w' w'':aK}{a a':Act}{args:eT}{b g held sh:bC}{base cut id j k:Nat}{body:LX}{c:Code}{ct:Ct}{e:Edge}{env env':Env}{f:gp}{fn:Func}{i i0 n:Int}{l:bY}{o:bR}{ob:Ob}{ops ops':gf}{p p' p'':Ow}{ps:List MemPlace}{q:Spl}{r:List (Nat×Ct)}{rt:gS}{s:Sp}{spare:Nat->Bool}{t:bW}{u v:bm}{vs:aJ}{x y:Prop}{Φ:dM}{β β':gM}{π:bA}{σ:bK}
theorem YV(h:El Φ o env M=some q):∃ct,Φ q.f=some ct/\ct.mu=some (.s q.s):=by
 unfold El at h;split at h
 ·split at h
  ·split at h
   ·split at h
    ·rename_i hct _;split at h
     ·rename_i hmu;split at h
      ·simp only[aG]at h;subst h;exact⟨_,hct,hmu⟩
      ·cases h
     ·cases h
    ·cases h
   ·cases h
  ·cases h
 ·cases h
theorem Qo(hΦ:gK P Φ)(h:aN P f ct):gK P (Fy Φ f ct):=by
 intro g c hg;unfold Fy at hg
 cases hb:Nat.beq g f with
 |true=>rw[hb]at hg;simp only[aD,aG]at hg;rw[←hg,dh hb];exact h
 |false=>rw[hb]at hg;exact hΦ g c hg
theorem TJ{Im Im':aT}{w:aK}(hI:∀b,Im b->Im' b):(rt:gS)->(x:bV rt)->(S:aT)->(us:aJ)->(∀b,S b->Im' b)->cW Im w rt x S us->cW Im' w (fzL rt) (fzX rt x) (λ_=>False) us
 |[],_,_,_,_,h=>h
 |q::r,x,S,us,hS,h=>by obtain⟨u,us',vs,S1,S2,h1,h2,h3,h4,h5,_,h7,h8⟩:=h;refine⟨u,us',vs,λ_=>False,λ_=>False,h1,h2,h3,λ_ h=>h.elim,λ_ h=>h.elim,λ_ h=>h.elim,?_,TJ hI r x.2 S2 us' (λb hb=>hS b (h5 b hb)) h8⟩;simp only[Rel];exact Rel.frz hI q.2 x.1 S1 vs (λb hb=>hS b (h4 b hb)) h7
theorem agj(h:aN P f ct)(hm:ct.mu=none):aN P f (fzCt ct):=by obtain⟨h1,h2⟩:=h;rw[hm]at h2;refine⟨h1,λA w us x hE hA hr hp=>?_⟩;refine (h2 A w us x hE hA hr hp).mono λe w' he=>?_;obtain⟨rs,S,q1,q2,q3,q4⟩:=he;refine⟨rs,λ_=>False,q1,q2,λ_ h=>h.elim,TJ (λb hb=>⟨hb.1,hb.2.1.elim (λh=>.inl ⟨rfl,h.2⟩) .inr,λh=>h⟩) _ _ S rs (λb hb=>⟨(q3 b hb).2,.inr (q3 b hb).1,λh=>h⟩) q4⟩
theorem aa9(hΦ:gK P Φ):gK P (vS Φ):=by
 intro f c hc;unfold vS at hc
 cases hf:Φ f with
 |none=>rw[hf]at hc;cases hc
 |some ct=>
  rw[hf]at hc;simp only at hc
  cases hm:ct.mu with
  |none=>rw[hm]at hc;simp only[aG]at hc;rw[←hc];exact agj (hΦ f ct hf) hm
  |some _=>rw[hm]at hc;simp only[aG]at hc;rw[←hc];exact hΦ f ct hf
theorem Us(h:aN P f ct)(hm:ct.mu=some (.s s))(b:bC):aN P f (fO s b):=by
 obtain⟨h1,h2⟩:=h;rw[hm]at h2
 cases b with
 |true=>exact⟨h1,h2.1⟩
 |false=>exact⟨h1,h2.2⟩
theorem SM(hΦ:iF P F Φ)(hB:TabOk P B)(all:gf)(Q:gL)(K:Env->Mem->Prop)(hQ:∀p env M a w,St F p env M a w->K env M->Q .normal a w) :
  ∀(ops:bY)(p:Ow)(env:Env)(M:Mem)(a:Act)(w:aK),fA F.nt ops=true->(∀o∈ops,∀k,o.dst=some k->F.fv k=none)->St F p env M a w->twS B Φ (toL all) ops env M K->wpList P all Q ops a w
 |[],p,env,M,a,w,_,_,h,hk=>hQ p env M a w h hk
 |o::rest,p,env,M,a,w,hc,hfv,h,hk=>by
  simp only[twS]at hk
  cases hb:nob (nogd env) (isN o.guard)with
  |false=>rw[hb]at hk;exact hk.elim
  |true=>
  rw[hb]at hk;simp only[aD]at hk;simp only[aU,ao]at hb;have hc1:=qP hc (oW);have ih:∀p' env' M' a' w',St F p' env' M' a' w'->twS B Φ (toL all) rest env' M' K->wpList P all Q rest a' w':=λp' env' M' a' w' h1 h2=>SM hΦ hB all Q K hQ rest p' env' M' a' w' (xi hc).2.2.2 (λo' ho'=>hfv o' (by simp[ho'])) h1 h2
  have step:∀Φ':FuncId->Option Ct,iF P F Φ'->twG B Φ' (toL all) [o] env M (λenv M=>twS B Φ (toL all) rest env M K)->wpList P all Q (o::rest) a w:=λΦ' hΦ' hk'=>by
   have h1:=vo (B:=B) (Φ:=Φ') [o] env M (A5 hb.1) hk';have hst:=Eh hΦ' hB all h h1 hc1 (hfv o ak) Q;unfold wpList;split at hst
   ·rename_i hw;rw[am hw];exact hst.imp (qj (λa' w' ⟨p',env',M',h1,h2⟩=>ih p' env' M' a' w' h1 h2)) id
   ·rename_i hw;rw[ai hw];obtain⟨p',env',M',h1,h2⟩:=hst;exact ih p' env' M' _ w h1 h2
  cases hs:El Φ o env M with
  |none=>rw[hs]at hk;exact step Φ hΦ hk
  |some q=>
   rw[hs]at hk;simp only at hk;obtain⟨ct,e1,e2⟩:=YV hs
   cases hq:q.b with
   |true=>exact step _ ⟨Qo hΦ.1 (Us (hΦ.1 _ _ e1) e2 true),hΦ.2⟩ (hk.1 hq)
   |false=>exact step _ ⟨Qo hΦ.1 (Us (hΦ.1 _ _ e1) e2 false),hΦ.2⟩ (hk.2 hq)
theorem TN(hΦ:iF P F Φ)(hB:TabOk P B)(all:gf)(Q:gL)(K:Env->Mem->Prop)(hQ:∀p env M a w,St F p env M a w->K env M->Q .normal a w) :
  ∀(ops:bY)(p:Ow)(env:Env)(M:Mem)(a:Act)(w:aK),fA F.nt ops=true->(∀o∈ops,∀k,o.dst=some k->F.fv k=none)->kW (toL all) ops env->St F p env M a w->twQ B Φ (toL all) ops env M K->wpList P all Q ops a w
 |[],p,env,M,a,w,_,_,_,h,hk=>hQ p env M a w h hk
 |o::rest,p,env,M,a,w,hc,hfv,hI,h,hk=>by
  simp only[twQ]at hk;have hc1:=qP hc (oW);have hdst:=KF hc1 (hfv o ak);have ih:∀p' env' M' a' w',kW (toL all) rest env'->St F p' env' M' a' w'->twQ B Φ (toL all) rest env' M' K->wpList P all Q rest a' w':=λp' env' M' a' w' h0 h1 h2=>TN hΦ hB all Q K hQ rest p' env' M' a' w' (xi hc).2.2.2 (λo' ho'=>hfv o' (by simp[ho'])) h0 h1 h2
  have step:tw B Φ (toL all) [o] env M (λenv M=>kW (toL all) rest env/\twQ B Φ (toL all) rest env M K)->wpList P all Q (o::rest) a w:=λh1=>by
   have hst:=Eh hΦ hB all h h1 hc1 (hfv o ak) Q;unfold wpList;split at hst
   ·rename_i hw;rw[am hw];exact hst.imp (qj (λa' w' ⟨p',env',M',h1,h2⟩=>ih p' env' M' a' w' h2.1 h1 h2.2)) id
   ·rename_i hw;rw[ai hw];obtain⟨p',env',M',h1,h2⟩:=hst;exact ih p' env' M' _ w h2.1 h1 h2.2
  cases hgd:o.guard with
  |none=>
   rw[hgd]at hk;refine step ?_;simp only[tw];rw[hgd];obtain⟨vc,he,hvc⟩:=xL (B:=B) (Φ:=Φ) hI KM o M;rw[he];generalize evG B Φ (toL all) [] o env M=q at hk hvc⊢;obtain⟨vc',v,e,M'⟩:=q;simp only at hk hvc⊢
   cases hv:gx v with
   |true=>rw[hv]at hk;exact hk.elim
   |false=>rw[hv]at hk;simp only[bp,kB]at hk;rw[kB];exact⟨hvc hk.1,Dt hI hv ⟨e,λt=>l6 t e env⟩,hk.2⟩
  |some g=>
   obtain⟨j,want⟩:=g;rw[hgd]at hk;simp only at hk
   cases hd:iN (toL all) j with
   |none=>rw[hd]at hk;exact hk.elim
   |some dj=>
    rw[hd]at hk;simp only at hk;have hdj:(all[j]?).bind (·.dst)=some dj:=by rw[←J6];exact hd
    have hw:Region.wanted o (yielded all a.tmps)=(yB (a.tmps.getD dj undef)==some want):=by simp only[Region.wanted,hgd,IM hdj]
    have hev:(evR B Φ o env M).av=(evG B Φ (toL all) (gB (toL all) env 8 j want) o env M).av/\(evR B Φ o env M).ev=(evG B Φ (toL all) (gB (toL all) env 8 j want) o env M).ev/\(evR B Φ o env M).M=(evG B Φ (toL all) (gB (toL all) env 8 j want) o env M).M:=by
     unfold evR evG;split
     ·simp only[rj,BA,ck];cases aP [_,_,_]<;>simp[bad]
     ·exact⟨rfl,rfl,rfl⟩
    have hgood:gc (gt env dj) want->∃vc,evR B Φ o env M=⟨vc,(evG B Φ (toL all) (gB (toL all) env 8 j want) o env M).av,(evG B Φ (toL all) (gB (toL all) env 8 j want) o env M).ev,(evG B Φ (toL all) (gB (toL all) env 8 j want) o env M).M⟩/\(ab (evG B Φ (toL all) (gB (toL all) env 8 j want) o env M).vc->ab vc):=λhG=>xL (B:=B) (Φ:=Φ) hI (DI hI 8 j want dj hd hG) o M;generalize evG B Φ (toL all) (gB (toL all) env 8 j want) o env M=q at hk hev hgood;obtain⟨vc',v,e,M'⟩:=q;simp only[aP]at hk hev hgood;cases h1:gW (gt env dj)<;>rw[h1]at hk<;>try exact hk.elim
    cases h4:wIn dj (o::rest)<;>rw[h4]at hk<;>try exact hk.elim
    simp only[neg,aD,bp]at hk;have hy:=Fe _ _ want h1 (h.slots dj)
    cases hqf:nob (gb o) (dv M e)with
    |true=>rw[hqf]at hk;simp only[aD]at hk;simp only[aU,ao]at hqf;refine step ?_;simp only[tw];rw[hgd];simp only[hd];generalize hq2:evR B Φ o env M=q2 at hev hgood;obtain⟨vc2,v2,e2,M2⟩:=q2;simp only at hev;obtain⟨rfl,rfl,rfl⟩:=hev;simp only[aP,h1,hqf.1,hqf.2,aD,xB]at hk⊢;refine⟨λhG=>?_,Ax hI hd h1 h4,hk.2⟩;obtain⟨vc3,e3,h3⟩:=hgood hG;cases e3;exact h3 (hk.1 hG)
    |false=>
     rw[hqf]at hk;simp only[bp]at hk
     cases hv:gx v with
     |true=>rw[hv]at hk;exact hk.elim
     |false=>
     rw[hv]at hk;simp only[bp,ifP,kB]at hk;unfold wpList;rw[hw];by_cases hG:gc (gt env dj) want
     ·rw[am (hy.2 hG)];obtain⟨vc3,e3,h3⟩:=hgood hG;obtain⟨k1,k2⟩:=hk.1 hG;refine .inl (qj (λa' w' ⟨u,g1,p',g2,g3,g4,_⟩=>?_) (AT hΦ hB h hc1 (by rw[e3];exact h3 k1) Q));rw[e3]at g2 g4;rw[g1];exact ih p' _ _ _ w' (Dt hI hv ⟨e,λt=>l6 t e env⟩) ((h.tr g2 g3).wrO _ u g4 hdst) k2
     ·rw[ai (λhh=>hG (hy.1 hh))];exact ih p _ _ _ w (Ax hI hd h1 h4) (h.wrO _ undef (by simp only[aj];exact⟨λhn=>absurd hn hG,λ_=>trivial⟩) hdst) (hk.2 hG)
theorem abs{β:Type}(f:α->β)(l:List α):FT f l=l.map f:=by
 induction l with
 |nil=>rfl
 |cons x l ih=>simp only[FT,ih,gO]
theorem Pb:e∈(rH σ o).after<->∃e'∈o.after,e=L4 σ e':=by unfold rH;simp only[abs,ds,List.mem_toArray,jJ,lj];exact⟨λ⟨a,h1,h2⟩=>⟨a,h1,h2.symm⟩,λ⟨a,h1,h2⟩=>⟨a,h1,h2.symm⟩⟩
theorem Jg{σ:bK}{l:bY}{o':bR}:∀{ks:bK},o'∈nv σ l ks->∃o∈l,o'=rH σ o
 |[],h=>by cases h
 |k::r,h=>by
  simp only[nv]at h;split at h
  ·rename_i o ho;rcases cQ.1 h with h|h
   ·rw[ti]at ho;exact⟨o,uk ho,h⟩
   ·exact Jg h
  ·exact Jg h
theorem Qv{σ:bK}{l:bY}:∀{ks:bK},(∀k∈ks,k<l.length)->(nv σ l ks).length=ks.length/\∀(j i:Nat)(o:bR),ks[j]? = some i->l[i]? = some o->(nv σ l ks)[j]? = some (rH σ o)
 |[],_=>⟨rfl,λj i o h=>by simp at h⟩
 |k::r,h=>by
  obtain⟨h1,h2⟩:=Qv (σ:=σ) (l:=l) (ks:=r) λx hx=>h x (by simp[hx]);have hk:=h k ak;obtain⟨o,ho⟩:∃o,l[k]? = some o:=⟨_,bX hk⟩;have e:nv σ l (k::r)=rH σ o::nv σ l r:=by simp only[nv,ti,ho]
  rw[e];refine⟨by simp[h1],λj i o' hj hi=>?_⟩
  cases j with
  |zero=>simp at hj;subst hj;rw[ho]at hi;cases hi;rfl
  |succ j=>simp at hj⊢;exact h2 j i o' hj hi
theorem DJ(h:j<L.size):L.getD j true=L.getD j false:=by simp[h]
structure Perm (ops ops':gf) (σ:bK) (n:Nat):Prop where
 s:ops.size=n
 s':ops'.size=n
 f:∀i,i<n->plc σ i<n/\σ[plc σ i]? = some i
 g:∀k,k<n->∃i,σ[k]? = some i/\i<n/\plc σ i=k
 op:∀(k i:Nat)(o:bR),σ[k]? = some i->ops[i]? = some o->ops'[k]? = some (rH σ o)
 gd:∀(i:Nat)(o:bR),ops[i]? = some o->o.guard=none
 bk:∀(i:Nat)(o:bR),ops[i]? = some o->∀e∈o.after,Region.binds .any e=true->e.on<n
theorem Perm.ready{n:Nat}(H:Perm ops ops' σ n){L':gg}(hL:L.size=n)(hL':L'.size=n)(hr:∀i,i<n->L'.getD (plc σ i) true=L.getD i true){i:Nat}(hi:i<n):
  i∈Region.ready .any ops L<->plc σ i∈Region.ready .any ops' L':=by
 obtain⟨f1,f2⟩:=H.f i hi;obtain⟨o,ho⟩:∃o,ops[i]? = some o:=⟨_,rT (by rw[H.s];exact hi)⟩;have ho':=H.op _ _ _ f2 ho;rw[w7,w7,hr i hi];constructor
 ·rintro⟨h1,o1,h2,h3⟩;rw[ho]at h2;cases h2;refine⟨h1,_,ho',λe he hb=>?_⟩;obtain⟨e',k1,rfl⟩:=Pb.1 he;have hn:=H.bk i o ho e' k1 hb;have hp:=H.f _ hn;have k2:=h3 e' k1 hb;rw[←DJ (by rw[hL];exact hn),←hr _ hn,DJ (by rw[hL'];exact hp.1)]at k2;exact k2
 ·rintro⟨h1,o1,h2,h3⟩;rw[ho']at h2;cases h2;refine⟨h1,_,ho,λe he hb=>?_⟩;have hn:=H.bk i o ho e he hb;have hp:=H.f _ hn;have k2:=h3 (L4 σ e) (Pb.2 ⟨e,he,rfl⟩) hb;rw[←DJ (by rw[hL];exact hn),←hr _ hn,DJ (by rw[hL'];exact hp.1)];exact k2
theorem Zy{n:Nat}(H:Perm ops ops' σ n):∀(fuel:Nat)(L L':gg)(a:Act)(w:aK),L.size=n->L'.size=n->(∀i,i<n->L'.getD (plc σ i) true=L.getD i true)->
  wpAny P .any ops' Q fuel L' a w->wpAny P .any ops Q fuel L a w:=by
 have nil:∀(L L':gg),L.size=n->L'.size=n->(∀i,i<n->L'.getD (plc σ i) true=L.getD i true)->(Region.ready .any ops L=[]<->Region.ready .any ops' L'=[]):=by
  intro L L' h1 h2 h3;have lt:∀{ops:gf} {L:gg} {i:Nat},i∈Region.ready .any ops L->i<ops.size:=λh=>by obtain⟨_,o,ho,_⟩:=w7.1 h;exact (eF.1 ho).1
  constructor
  ·intro h
   cases hr:Region.ready .any ops' L' with
   |nil=>rfl
   |cons k r=>
    have hk:k∈Region.ready .any ops' L':=by rw[hr];simp
    have hkn:=lt hk;rw[H.s']at hkn;obtain⟨i,i1,i2,i3⟩:=H.g k hkn;rw[←i3]at hk;have:=(H.ready h1 h2 h3 i2).2 hk;rw[h]at this;cases this
  ·intro h
   cases hr:Region.ready .any ops L with
   |nil=>rfl
   |cons i r=>
    have hi:i∈Region.ready .any ops L:=by rw[hr];simp
    have hin:=lt hi;rw[H.s]at hin;have:=(H.ready h1 h2 h3 hin).1 hi;rw[h]at this;cases this
 intro fuel
 induction fuel with
 |zero=>intro L L' a w h1 h2 h3 h;exact⟨(nil L L' h1 h2 h3).2 h.1,h.2⟩
 |succ fuel ih=>
  intro L L' a w h1 h2 h3 h;refine⟨λhn=>h.1 ((nil L L' h1 h2 h3).1 hn),λi hi=>?_⟩;obtain⟨_,o,ho,_⟩:=w7.1 hi;have hin:=(eF.1 ho).1;rw[H.s]at hin;have hk:=h.2 _ ((H.ready h1 h2 h3 hin).1 hi);obtain⟨f1,f2⟩:=H.f i hin;have ho':=H.op _ _ _ f2 ho;have hg:=H.gd i o ho
  have e:∀K:Act->World->Prop,wpOp P ops' Q (plc σ i) K a w->wpOp P ops Q i K a w:=by
   intro K hh;unfold wpOp at hh⊢;rw[ho']at hh;rw[ho];have g1:Region.wanted o (yielded ops a.tmps)=true:=by simp[Region.wanted,hg]
   have g2:Region.wanted (rH σ o) (yielded ops' a.tmps)=true:=by simp[Region.wanted,rH,hg]
   simp only[g2,eX]at hh;simp only[g1,eX];exact hh
  refine wpOp_mono (λa' w' hh=>ih _ _ a' w' (by simpa using h1) (by simpa using h2) (λj hj=>?_) hh) (e _ hk);by_cases hji:j=i
  ·subst hji;simp[h1,h2,hin,f1]
  ·have hne:plc σ i≠plc σ j:=λhh=>by have:=(H.f j hj).2;rw[←hh,f2]at this;cases this;exact hji rfl
   rw[qk true hne,qk true (dg hji)];exact h3 j hj
theorem Pj:∀{l:bY},BB l=true->∀o∈l,o.guard=none
 |[],_,_,h=>by cases h
 |o::r,h,o',ho'=>by
  simp only[BB,aU,ao]at h;rcases cQ.1 ho' with e|e
  ·subst e;have:=h.1
   cases hg:o'.guard with
   |none=>rfl
   |some g=>rw[hg]at this;cases this
  ·exact Pj h.2 o' e
theorem Ki{α:Type}:∀l:List α,len l=l.length
 |[]=>rfl
 |_::r=>by rw[len,Ki r];rfl
theorem U6(b:bC):nob b true=b:=by cases b<;>rfl
theorem QO{m i:Nat}(h:i<m)(hf:gI l.length (db [] l) m i=true):(Fh l m).getD i false=true:=by unfold Fh;rw[bN,fQ,nO h];simp only[dX,dY,Ki];exact hf
theorem PH:∀e:List Ev,vw [] e=true
 |[]=>rfl
 |x::e=>by
  have h:xv [] x=true:=by cases x<;>rfl
  simp only[vw,h,PH e,aU,nN]
theorem Ju:∀(ls:List (List Oper)) (fs:fw) (l:bY) (env:Env) (M:Mem),lH [] [] B Φ ls fs l env M=true
 |_,_,[],_,_=>rfl
 |ls,fs,o::r,env,M=>by have e:L8 []=true:=rfl;simp only[lH,e,PH,gD,Bool.true_or,yU,aU,ji];exact Ju _ _ r _ _
theorem Sd(hΦ:iF P F Φ)(hB:TabOk P B)(hmix:P.follows .mixedOrders=true){R R2:bC}{ks as:bK}(hco:fA F.nt (dD R (toL ops))=true)(hfv:∀o∈toL ops,∀k,o.dst=some k->F.fv k=none)(hr:FB R R2 (toL ops) cut=true)(hR:R2=false->ks=[])(hD:∀i,i<cut->gI (dD R (toL ops)).length (db [] (dD R (toL ops))) cut i=true->Ds.getD i false=true)(hQ:∀p env M a w,St F p env M a w->K env M->Q .normal a w)(h:St F p env M a w)(hn:lD env=true)(hk:hx Ds ks as B Φ M (du cut (dD R (toL ops))) env [] (λenv X=>bif nob (nogd env) (lH ks as B Φ (my (dD R (toL ops)) cut) (mz (dD R (toL ops)) cut) (gu cut (dD R (toL ops))) env (ap X M))then twG B Φ (dD R (toL ops)) (gu cut (dD R (toL ops))) env (ap X M) K else False)):(Code.region id ops true).wp P Q a w:=by
 simp only[FB,ao]at hr;obtain⟨h1,h2,h3,h4⟩:=hr;simp only[KK,ao,eU,yW,Ki]at h2;obtain⟨⟨p1,p2⟩,p3⟩:=h2;have p1:=dh p1;have hσ:dD R (toL ops)=nv (Bp R (toL ops)) (toL ops) (Bp R (toL ops)):=rfl;generalize Bp R (toL ops)=σ at *
 have hg:∀k,k<(toL ops).length->∃i,σ[k]? = some i/\i<(toL ops).length/\plc σ i=k:=λk hk=>by
  have:=p3 k hk
  cases hs:eQ σ k with
  |none=>rw[hs]at this;cases this
  |some i=>rw[hs]at this;simp only[ao,ql]at this;rw[ti]at hs;exact⟨i,hs,this.1,dh this.2⟩
 have hmem:∀k∈σ,k<(toL ops).length:=λk hk=>by obtain⟨j,hj,rfl⟩:=mL hk;obtain⟨i,i1,i2,_⟩:=hg j aa;rw[bX hj]at i1;cases i1;exact i2
 obtain⟨g1,g2⟩:=Qv (σ:=σ) (l:=toL ops) hmem;have hsz:(toL ops).length=ops.size:=by rw[ds];simp
 have H:Perm ops ⟨dD R (toL ops)⟩ σ ops.size:={
  s:=rfl
  s':=by show (dD R (toL ops)).length=ops.size;rw[hσ,g1,p1,hsz]
  f:=λi hi=>by
   have:=p2 i (by rw[hsz];exact hi);simp only[ql]at this;refine⟨by rw[←hsz];exact this.1,?_⟩;have h5:=this.2;rw[ti]at h5
   cases hs:σ[plc σ i]? with
   |none=>rw[hs]at h5;cases h5
   |some k=>rw[hs]at h5;rw[dh h5]
  g:=λk hk=>by obtain⟨i,i1,i2,i3⟩:=hg k (by rw[hsz];exact hk);exact⟨i,i1,by rw[←hsz];exact i2,i3⟩
  op:=λk i o hk ho=>by have:=g2 k i o hk (by rw[ds];simpa using ho);rw[←hσ]at this;simpa using this
  gd:=λi o ho=>Pj h3 o (by rw[ds,lj];exact um ho)
  bk:=λi o ho e he hb=>by have:=Dn (toL ops) 0 h1 i o (by rw[ds];simpa using ho) e he hb;have hi:=(eF.1 ho).1;omega }
 refine wp_region_any hmix (Zy H _ _ (Array.replicate ops.size false) a _ ak ak (λi hi=>?_) ?_)
 ·have:=(H.f i hi).1;simp[hi,this]
 ·have hz:(⟨dD R (toL ops)⟩:Array Oper).size=ops.size:=H.s';have:=PQ (F:=F) (ops:=⟨dD R (toL ops)⟩) (cut:=cut) (K:=K) (Q:=Q) (P:=P) hΦ hB (by exact hco) (λo ho k hk=>by obtain⟨o',q1,rfl⟩:=Jg (by rw[←hσ];exact ho);exact hfv o' q1 k hk) h4 hR (λ_=>hD) hQ h hn hk;rw[hz]at this;exact this
structure AddE (ops ops':gf) (j i:Nat):Prop where
 s:ops'.size=ops.size
 ne:∀k,k≠j->ops'[k]? = ops[k]?
 at_:∀o,ops[j]? = some o->ops'[j]? = some (TP i o)
 gd:∀(k:Nat)(o:bR),ops[k]? = some o->o.guard=none
theorem afe(hΦ:iF P F Φ)(hB:TabOk P B)(hmix:P.follows .mixedOrders=true)(hfv:∀o∈toL ops,∀k,o.dst=some k->F.fv k=none)(hr:UG F.nt (toL ops)=true)(hQ:∀p env M a w,St F p env M a w->K env M->Q .normal a w)(h:St F p env M a w)(hA:hxT B Φ (F7 (toL ops)) (kN 0 (toL ops)) env M K)(hB':hxT B Φ (FG (toL ops)) (Nat.succ (kN 0 (toL ops))) env M K):(Code.region id ops true).wp P Q a w:=by
 exact False.elim hA
theorem acb(h:St F p env M a w){t:Nat}(hb:(gt env t).isB=true):a.tmps.getD t undef=.bool (gt env t).boolV:=by obtain⟨b,h1,h2⟩:=DE hb;have:=h.slots t;rw[h1,bn,gh]at this;rw[this,h2]
theorem lA(hΦ:gK P Φ)(hB:TabOk P B)(hmix:P.follows .mixedOrders=true)(cut:nK):(c:Code)->(F:Fr)->lI P F->(A:Ann)->(K:Ex->Env->Mem->Prop)->(env:Env)->(M:Mem)->okC F.nt cut c=true->rn F.fv c->ev B Φ cut c A K env M->
  ∀(p:Ow)(a:Act)(w:aK),St F p env M a w->c.wp P (jb F K) a w
 |.skip,F,hG,A,K,env,M,_,_,h,p,a,w,hs=>by simp only[ev]at h;exact wp_skip ⟨p,env,M,hs,h⟩
 |.ret,F,hG,A,K,env,M,_,_,h,p,a,w,hs=>by simp only[ev]at h;exact wp_ret ⟨p,env,M,hs,h⟩
 |.exit id,F,hG,A,K,env,M,_,_,h,p,a,w,hs=>by simp only[ev]at h;exact wp_exit ⟨p,env,M,hs,h⟩
 |.seq x y,F,hG,A,K,env,M,hc,hf,h,p,a,w,hs=>by
  simp only[okC,aU,ao]at hc
  have fin:∀A2:Ann,x.wp P (jb F (m9 (λenv M=>ev B Φ cut y A2 K env M) K)) a w->(Code.seq x y).wp P (jb F K) a w:=λA2 hw=>by
   refine wp_seq (qm (λe a' w' he=>?_) hw)
   cases e with
   |normal=>obtain⟨p',env',M',h1,h2⟩:=he;exact lA hΦ hB hmix cut y F hG A2 K env' M' hc.2 hf.2 h2 p' a' w' h1
   |exit id|ret|goto l=>exact he
   |panic c|outgrown=>exact he.elim
  have nj:∀A:Ann,ev B Φ cut (.seq x y) A K env M=ev B Φ cut x A.fst (m9 (λenv M=>ev B Φ cut y A.snd K env M) K) env M->ev B Φ cut (.seq x y) A K env M->(Code.seq x y).wp P (jb F K) a w:=λA e h=>by rw[e]at h;exact fin A.snd (lA hΦ hB hmix cut x F hG A.fst _ env M hc.1 hf.1 h p a w hs)
  cases A with
  |n|s A1 A2|l ss os ks A=>exact nj _ (by simp only[ev]) h
  |j ss os ks A=>
   simp only[ev]at h
   cases hb:noW ks x with
   |false=>rw[hb]at h;exact h.elim
   |true=>rw[hb]at h;simp only[aD,bZ]at h;exact fin A.snd (Kr hs (lA hΦ hB hmix cut x (mkF F (Imm F p M w) w ks a) hG A.fst _ env M hc.1 (oc x hb hf.1) h p a w (hs.fwd ks)))
 |.region id ops draw,F,hG,A,K,env,M,hc,hf,h,p,a,w,hs=>by
  simp only[okC,aU,ao]at hc;simp only[ev]at h;have hQ:∀p env M a w,St F p env M a w->(λenv M=>K .nm (clr env) M) env M->jb F K .normal a w:=λp env M a w h1 h2=>⟨p,clr env,M,h1.weak (KU env),h2⟩
  cases draw with
  |false=>
   simp only at h;have h1:=hc.1;have h2:∀o∈ops.toList,∀k,o.dst=some k->F.fv k=none:=by rw[←ds];exact hf
   rw[ds]at h1
   cases hsq:Nat.beq (cut id) 1600 with
   |true=>
    rw[hsq]at h;simp only[aD]at h
    cases hn:nogd env with
    |false=>rw[hn]at h;exact h.elim
    |true=>
    rw[hn]at h;have:=TN (P:=P) ⟨hΦ,hG⟩ hB ops (jb F K) (λenv M=>K .nm (clr env) M) hQ ops.toList p env M a w h1 h2 (A5 hn) hs (by rw[←ds ops];exact h);have e:ops=ops.toList.toArray:=ak
    rw[e];exact wp_region_lit (by simpa using this)
   |false=>
   rw[hsq]at h;simp only[bp]at h
   cases hsp:Nat.beq (cut id) 1500 with
   |true=>
    rw[hsp]at h;simp only[aD]at h;have:=SM (P:=P) ⟨hΦ,hG⟩ hB ops (jb F K) (λenv M=>K .nm (clr env) M) hQ ops.toList p env M a w h1 h2 hs (by rw[←ds ops];exact h);have e:ops=ops.toList.toArray:=ak
    rw[e];exact wp_region_lit (by simpa using this)
   |false=>
   rw[hsp]at h;simp only[bp]at h
   cases hn:nogd env with
   |false=>rw[hn]at h;exact h.elim
   |true=>
   rw[hn]at h;replace h:=vo (B:=B) (Φ:=Φ) _ _ _ (A5 hn) h;have:=Uv (P:=P) ⟨hΦ,hG⟩ hB ops (jb F K) (λenv M=>K .nm (clr env) M) hQ ops.toList p env M a w h1 h2 hs (by rw[←ds ops];exact h);have e:ops=ops.toList.toArray:=ak
   rw[e];exact wp_region_lit (by simpa using this)
  |true=>
   simp only at h
   cases hbx:Nat.beq (cut id) 999999 with
   |true=>rw[hbx]at h hc;simp only[aD]at h;have hs1:=sV [] (t6 env (toL ops)) M env hs;generalize js [] (t6 env (toL ops)) M env=z at h hs1;obtain⟨env1,M1⟩:=z;exact ad8 ⟨hΦ,hG⟩ hB hmix hc.1 hf hc.2 hQ hs1 h
   |false=>
   rw[hbx]at h hc;simp only[bp]at h hc
   cases htw:Nat.beq (cut id) 999998 with
   |true=>rw[htw]at h hc;simp only[aD]at h hc;exact afe ⟨hΦ,hG⟩ hB hmix hf hc.2 hQ hs h.1 h.2
   |false=>
   rw[htw]at h hc;simp only[bp]at h hc
   cases hpq:Nat.ble 10000 (cut id)with
   |true=>
    rw[hpq]at h hc;simp only[aD]at h hc;generalize mC (cut id)=n at h hc;generalize hrC (cut id)=hr0 at h hc;generalize FH (cut id)=ks at h
    cases hn:lD env with
    |false=>rw[hn]at h;exact h.elim
    |true=>
    rw[hn]at h;simp only[aD]at h;have hc2:=hc.2;simp only[aU,ao]at hc2;exact Sd (R:=hr0) (R2:=true) (ks:=ks) (as:=[]) ⟨hΦ,hG⟩ hB hmix hc2.1 hf hc2.2 (λh=>by cases h) (λi hi hfl=>QO hi hfl) hQ hs hn h
   |false=>
   rw[hpq]at h hc;simp only[bp]at h hc
   cases hpm:Nat.ble 2000 (cut id)with
   |true=>
    rw[hpm]at h hc;simp only[aD]at h hc;generalize Nat.sub (cut id) (vN (cut id))=n at h hc;generalize (bif Nat.ble 5000 (cut id)then xK env (toL ops)else [])=as at h
    obtain⟨env1,M1,e1,hs1⟩:∃env1 M1,(bif FC (cut id)then js [] (t6 env (toL ops)) M env else (env,M))=(env1,M1)/\St F p env1 M1 a w:=by
     cases FC (cut id)with
     |true=>exact⟨_,_,rfl,sV [] (t6 env (toL ops)) M env hs⟩
     |false=>exact⟨env,M,rfl,hs⟩
    rw[e1]at h;simp only at h
    cases hn:lD env1 with
    |false=>rw[hn]at h;exact h.elim
    |true=>
    rw[hn]at h;simp only[aD]at h;have hc2:=hc.2;simp only[aU,ao]at hc2;exact Sd (R:=false) (R2:=false) (ks:=[]) (as:=as) ⟨hΦ,hG⟩ hB hmix hc2.1 hf hc2.2 (λ_=>rfl) (λi hi hfl=>QO hi hfl) hQ hs1 hn h
   |false=>
   rw[hpm]at h hc;simp only[bp]at h hc
   cases hfx:Nat.ble 1000 (cut id)with
   |true=>
    rw[hfx]at h hc;simp only[aD]at h hc;generalize Nat.sub (cut id) 1000=n at h hc;obtain⟨env1,M1,e1,hs1⟩:∃env1 M1,js [] (AQ env (toL ops)) M env=(env1,M1)/\St F p env1 M1 a w:=⟨_,_,rfl,sV [] (AQ env (toL ops)) M env hs⟩;rw[e1]at h;simp only at h
    cases hn:lD env1 with
    |false=>rw[hn]at h;exact h.elim
    |true=>
    rw[hn]at h;simp only[aD]at h;exact RO (R:=false) (ks:=[]) (as:=[]) ⟨aa9 hΦ,hG⟩ hB hmix hc.1 hf hc.2 (λ_=>rfl) (λh=>by cases h) hQ hs1 hn (by simp only[Ju,U6];exact h)
   |false=>
   rw[hfx]at h hc;simp only[bp]at h hc
   cases hhx:Nat.ble 500 (cut id)with
   |true=>
    rw[hhx]at h hc;simp only[aD]at h hc;generalize Nat.sub (cut id) 500=n at h hc
    cases hn:lD env with
    |false=>rw[hn]at h;exact h.elim
    |true=>
    rw[hn]at h;simp only[aD]at h;exact RO (R:=false) (ks:=[]) (as:=[]) ⟨hΦ,hG⟩ hB hmix hc.1 hf hc.2 (λ_=>rfl) (λh=>by cases h) hQ hs hn (by simp only[Ju,U6];exact h)
   |false=>
   rw[hhx]at h hc;simp only[bp]at h hc
   cases hn:nogd env with
   |false=>rw[hn]at h;exact h.elim
   |true=>
   rw[hn]at h;replace h:=KQ (B:=B) (Φ:=Φ) (λenv hI he=>vo (B:=B) (Φ:=Φ) _ _ _ hI he) _ _ _ (A5 hn) h;exact adq ⟨hΦ,hG⟩ hB hmix hc.1 hf hc.2 hQ hs h
 |.cond g x y,F,hG,A,K,env,M,hc,hf,h,p,a,w,hs=>by
  simp only[okC,aU,ao]at hc
  cases g with
  |const v|func v|global v=>simp only[ev]at h
  |tmp t=>
   have plain:∀(A1 A2:Ann)(F':Fr)(hG':lI P F')(K':Ex->Env->Mem->Prop),F'.nt=F.nt->rn F'.fv x->rn F'.fv y->St F' p env M a w->(gt env t).isB=true->cnd (gt env t).boolV (ev B Φ cut x A1 K' env M) (ev B Φ cut y A2 K' env M)->(Code.cond (.tmp t) x y).wp P (jb F' K') a w:=λA1 A2 F' hG' K' hnt hfx hfy hs' hb hcn=>wp_cond_split (t:=(gt env t).boolV) (acb hs' hb) (λe=>lA hΦ hB hmix cut x F' hG' A1 K' env M (by rw[hnt];exact hc.1) hfx (hcn.1 e) p a w hs') (λe=>lA hΦ hB hmix cut y F' hG' A2 K' env M (by rw[hnt];exact hc.2) hfy (hcn.2 e) p a w hs')
   have nj:∀A:Ann,ev B Φ cut (.cond (.tmp t) x y) A K env M=(bif (gt env t).isB then cnd (gt env t).boolV (ev B Φ cut x A.fst K env M) (ev B Φ cut y A.snd K env M)else False)->ev B Φ cut (.cond (.tmp t) x y) A K env M->(Code.cond (.tmp t) x y).wp P (jb F K) a w:=λA e h=>by
    rw[e]at h
    cases hb:(gt env t).isB with
    |false=>rw[hb]at h;exact h.elim
    |true=>rw[hb]at h;exact plain A.fst A.snd F hG K rfl hf.1 hf.2 hs hb h
   cases A with
   |n|s A1 A2|l ss os ks A=>exact nj _ (by simp only[ev]) h
   |j ss os ks A=>
    simp only[ev]at h
    cases hb:aP [(gt env t).isB,noW ks x,noW ks y]with
    |false=>rw[hb]at h;exact h.elim
    |true=>rw[hb]at h;simp only[aD,bZ]at h;simp only[bQ,bT,bM,ao]at hb;exact Kr hs (plain A.fst A.snd (mkF F (Imm F p M w) w ks a) hG _ rfl (oc x hb.2.1 hf.1) (oc y hb.2.2 hf.2) (hs.fwd ks) hb.1 h)
 |.block id c,F,hG,A,K,env,M,hc,hf,h,p,a,w,hs=>by
  simp only[okC]at hc
  have fin:∀(F':Fr)(K2:Ex->Env->Mem->Prop),c.wp P (jb F' (qd id K2)) a w->(Code.block id c).wp P (jb F' K2) a w:=λF' K2 hw=>by
   refine wp_block (qm (λe a' w' he=>?_) hw)
   cases e with
   |normal=>exact he
   |exit id'=>
    obtain⟨p',env',M',h1,h2⟩:=he;simp only[qd,dP]at h2;simp only[Exit.inBlock];split at h2
    ·rename_i e;rw[am e];exact⟨p',env',M',h1,h2⟩
    ·rename_i e;rw[ai e];exact⟨p',env',M',h1,h2⟩
   |ret|goto l=>exact he
   |panic c|outgrown=>exact he.elim
  have nj:∀A:Ann,ev B Φ cut (.block id c) A K env M=ev B Φ cut c A (qd id K) env M->ev B Φ cut (.block id c) A K env M->(Code.block id c).wp P (jb F K) a w:=λA e h=>by rw[e]at h;exact fin F K (lA hΦ hB hmix cut c F hG A _ env M hc hf h p a w hs)
  cases A with
  |n|s A1 A2|l ss os ks A=>exact nj _ (by simp only[ev]) h
  |j ss os ks A=>
   simp only[ev]at h
   cases hb:noW ks c with
   |false=>rw[hb]at h;exact h.elim
   |true=>rw[hb]at h;simp only[aD,bZ]at h;exact Kr hs (fin _ _ (lA hΦ hB hmix cut c (mkF F (Imm F p M w) w ks a) hG A _ env M hc (oc c hb hf) h p a w (hs.fwd ks)))
 |.loop c,F,hG,A,K,env,M,hc,hf,h,p,a,w,hs=>by
  simp only[okC]at hc
  cases A with
  |n|s A1 A2|j ss os ks A=>simp only[ev]at h
  |l ss os ks A=>
   simp only[ev]at h
   cases hb:noW ks c with
   |false=>rw[hb]at h;exact h.elim
   |true=>
    rw[hb]at h;simp only[aD]at h
    cases hrd:tH ss os env M with
    |none=>rw[hrd]at h;exact h.elim
    |some q=>
     rw[hrd]at h;simp only[aI]at h;obtain⟨n,hn⟩:=h;obtain⟨p1,h1,hK⟩:=Ji hs hrd;obtain⟨o1,o2⟩:=IR hs hrd;generalize hbody:(λ(s:gZ ss×fo os) (next:gZ ss×fo os->Prop)=>imps (okS ss s.1) (imps (okO os s.2) (ev B Φ cut c A (kh ss os next K) (ap (pX ss s.1) (nA q.2 ks)) (dV os s.2))))=body at hn
     have key:=YE (P:=P) (c:=c) (Q':=jb F K) (ι:=Nat) (λn a1 w1=>∃(p2:Ow)(s:gZ ss×fo os),St (mkF F (Imm F p1 (dV os q.1.2) w) w ks a) p2 (ap (pX ss s.1) (nA q.2 ks)) (dV os s.2) a1 w1/\ab (okS ss s.1)/\ab (okO os s.2)/\jz body n s) id
      (λn a1 w1 ⟨p2,s,g1,g2,g3,g4⟩=>by
       cases n with
       |zero=>simp only[jz]at g4
       |succ n=>
        simp only[jz]at g4;have hb1:=congrFun (congrFun hbody s) (jz body n);rw[←hb1]at g4;simp only[PL]at g4;refine qm (λe a' w' he=>?_) (lA hΦ hB hmix cut c (mkF F (Imm F p1 (dV os q.1.2) w) w ks a) hG A _ _ _ hc (oc c hb hf) (g4 g2 g3) p2 a1 w1 g1)
        cases e with
        |normal=>
         obtain⟨p3,env3,M3,k1,k2⟩:=he;simp only[kh,B0]at k2
         cases hr3:tH ss os env3 M3 with
         |none=>rw[hr3]at k2;exact k2.elim
         |some s'=>rw[hr3]at k2;obtain⟨p4,k3,_⟩:=Ji k1 hr3;obtain⟨k4,k5⟩:=IR k1 hr3;exact⟨n,Cp n,p4,s'.1,St.add hK k3,k4,k5,k2⟩
        |exit id|ret|goto l=>obtain⟨p3,env3,M3,k1,k2⟩:=he;exact⟨p3,env3,M3,h1.back k1,k2⟩
        |panic ch=>exact he.elim
        |outgrown=>exact he.elim)
     exact key n a w ⟨p1,q.1,St.add hK (h1.fwd ks),o1,o2,hn⟩
 |.scope c,F,hG,A,K,env,M,hc,hf,h,p,a,w,hs=>by
  simp only[okC]at hc;simp only[ev]at h;refine wp_scope_straight (qm (λe a' w' he=>?_) (lA hΦ hB hmix cut c F hG A _ env M hc hf h p a w hs))
  cases e with
  |goto l=>obtain⟨_,_,_,_,h2⟩:=he;exact h2.elim
  |normal|exit id|ret|panic ch|outgrown=>exact he
 |.goto l,F,hG,A,K,env,M,_,_,h,p,a,w,hs=>by simp only[ev]at h;exact wp_goto ⟨p,env,M,hs,h⟩
 |.label _,F,hG,A,K,env,M,_,_,h,p,a,w,hs=>by simp only[ev]at h;exact wp_label ⟨p,env,M,hs,h⟩
 |.rangeFunc _ _ _ _,F,hG,A,K,env,M,_,_,h,p,a,w,hs|.refuse _,F,hG,A,K,env,M,_,_,h,p,a,w,hs=>by simp only[ev]at h
theorem PD{Im Im':aT}{w:aK}:(rs:gS)->oz rs=true->(x:bV rs)->(S:aT)->(us:aJ)->cW Im w rs x S us->cW Im' w rs x S us
 |[],_,x,S,us,r=>by simpa only [cW]using r
 |q::rs,h,x,S,us,r=>by simp only[oz,aU,ao]at h;simp only[cW]at r⊢;obtain⟨u,us',vs,S1,S2,e1,e2,e3,e4,e5,e6,e7,e8⟩:=r;exact⟨u,us',vs,S1,S2,e1,e2,e3,e4,e5,e6,sY _ h.1 _ _ _ e7,PD rs h.2 _ _ _ e8⟩
theorem ada{r:bm}(h:(Instr.loadAt t u).run P w=.ok r w):(do loadVar t (←asAddr u):Sem Value).run P w=.ok r w:=by
 cases u<;>simp[Instr.loadAt,Instr.sureAddr]at h
 case pointer o=>
  cases o with
  |none=>simp at h
  |some ad=>simpa[asAddr]using h
def BO(tmps:lP):ResultVar->Sem Value
 |.tmp t=>pure (tmps.getD t undef)
 |.cell t ty'=>do loadVar ty' (←asAddr (tmps.getD t undef))
theorem Dm(fn:Func)(tmps:lP):results fn tmps=(do let vs ←fn.results.mapM (BO tmps);pure (if h:vs.size=1 then vs[0]else .tuple vs):Sem Value):=by unfold results;congr
theorem Rq(hB:TabOk P B)(hp:Hp F p M w)(hs:∀t,aj p.β M (Imm F p M w) w (gt env t) (a.tmps.getD t undef))(rv:ResultVar)(v:V)(hv:BI B env M rv=some v):
  ∃r,(BO a.tmps rv).run P w=.ok r w/\aj p.β M (Imm F p M w) w v r:=by
 cases rv with
 |tmp t=>simp only[BI,aG]at hv;subst hv;exact⟨_,by simp[BO],hs t⟩
 |cell t ty'=>
  simp only[BI]at hv;split at hv
  ·rename_i v' he;cases hv;obtain⟨r,h1,h2⟩:=OW (P:=P) hB hp _ _ (hs t) (by rw[he];trivial);rw[he]at h2;exact⟨r,ada h1,h2⟩
  ·cases hv
theorem Ss{v:V}(hp:Hp F p M w)(h:aj p.β M (Imm F p M w) w v u)(hc:fZ (eS g v)=true):∃vs:List Value,(g=true->u=.agg vs.toArray)/\(g=false->vs=[u])/\ac p.β M (Imm F p M w) w (eS g v) vs:=by
 cases v with
 |ag y=>
  cases g with
  |false=>simp[eS,fZ]at hc
  |true=>simp only[aj]at h;obtain⟨vs,h1,h2⟩:=h;exact⟨vs,λ_=>h1,(λh=>nomatch h),by simpa only [eS,aD]using h2⟩
 |any|tup _|gd _ _ _ _=>cases g<;>simp[eS,fZ]at hc
 |ifc t x=>cases g with
  |true=>simp[eS,fZ]at hc
  |false=>exact⟨[u],(λh=>nomatch h),λ_=>rfl,by simpa only [eS,bp,aj]using h⟩
 |p x y=>cases g with
  |true=>simp[eS,fZ]at hc
  |false=>exact⟨[u],(λh=>nomatch h),λ_=>rfl,by simpa only [eS,bp,aj]using h⟩
 |u=>cases g with
  |true=>simp[eS,fZ]at hc
  |false=>exact⟨[u],(λh=>nomatch h),λ_=>rfl,by simpa only [eS,bp,aj]using h⟩
 |ref k π=>cases g with
  |true=>simp[eS,fZ]at hc
  |false=>exact⟨[u],(λh=>nomatch h),λ_=>rfl,by simpa only [eS,bp,aj]using h⟩
 |ad k π=>cases g with
  |true=>simp[eS,fZ]at hc
  |false=>exact⟨[u],(λh=>nomatch h),λ_=>rfl,by simpa only [eS,bp,aj]using h⟩
 |d t x=>cases g with
  |true=>simp[eS,fZ]at hc
  |false=>exact⟨[u],(λh=>nomatch h),λ_=>rfl,by simpa only [eS,bp,aj]using h⟩
 |nl=>cases g with
  |true=>simp[eS,fZ]at hc
  |false=>exact⟨[u],(λh=>nomatch h),λ_=>rfl,by simpa only [eS,bp,aj]using h⟩
 |np=>cases g with
  |true=>simp[eS,fZ]at hc
  |false=>exact⟨[u],(λh=>nomatch h),λ_=>rfl,by simpa only [eS,bp,aj]using h⟩
 |fn f x=>cases g with
  |true=>simp[eS,fZ]at hc
  |false=>exact⟨[u],(λh=>nomatch h),λ_=>rfl,by simpa only [eS,bp,aj]using h⟩
 |bx x=>cases g with
  |true=>simp[eS,fZ]at hc
  |false=>exact⟨[u],(λh=>nomatch h),λ_=>rfl,by simpa only [eS,bp,aj]using h⟩
theorem ac4(hp:Hp F p M w)(o:O)(v:V)(vs:aJ)(x:o.strip.den)(e:cg)(r:ac p.β M (Imm F p M w) w v vs)(h:FJ M o v=some (x,e,M')):
  ∃p',∃S:Nat->Prop,Tr F p M w e p' M' w/\(∀b,p'.L b<->p.L b\/S b)/\(∀b,S b->¬p.L b)/\Rel (Imm F p' M' w) w o x S vs:=by
 unfold FJ at h;split at h
 ·rename_i k i;split at h
  ·rename_i e0 l hk
   cases hb:eo k gid with
   |false=>rw[hb]at h;cases h
   |true=>
    rw[hb]at h;simp only[aD]at h;split at h
    ·rename_i y hy;cases h;have hg:k<gid:=by simp only[eo,bQ,bT,bM,ao]at hb;exact ia hb.2
     simp only[ac]at r;obtain⟨ob,pl,h1,h2,⟨q,h3⟩,h4⟩:=r;rw[hk]at h1;cases h1;have hi:i<l.length:=by simp only[gok]at h2;exact h2.1
     have hrel:=hp.objs k _ hk;obtain⟨us,pl1,Si,e1,e2,e3,_⟩:=IU hi hrel;rw[e1 none]at h4;cases h4;have cv:=Cv.whole hp gid hk hg;obtain⟨w1,w2⟩:=th hy;obtain⟨S',s1,s2⟩:=ni e0 o w1 _ x Si vs w2 (Rel.keep cv.tr.keep _ _ _ _ (λ_ _=>rfl) e3);have hd:=Tr.drop cv.tr.hp (λb=>p.L b\/S' b) (λb hb=>(cv.L b).2 (hb.imp id (λh=>e2 b (s1 b h))));refine⟨⟨p.β,p.σ,λb=>p.L b\/S' b⟩,S',by have:=cv.tr.trans hd;rwa [tA]at this,λb=>lh,λb hb=>cv.sp b (e2 b (s1 b hb)),s2 _ (λb hb=>(hd.keep b hb).1) (λb hb hn=>?_)⟩;have hl:=cv.tr.hp.lim b ((cv.L b).2 (.inr (e2 b hb)));exact⟨hl.1,.inr hl.2.1.r,λh=>h.elim (cv.sp b (e2 b hb)) hn,hl.2.2⟩
    ·cases h
  ·cases h
 ·cases h
theorem Ru(hp:Hp F p M w)(o:O)(v:V)(vs:aJ)(x:o.strip.den)(e:cg)(r:ac p.β M (Imm F p M w) w v vs)(h:FR M o v=some (x,e,M')):
  ∃p',∃S:Nat->Prop,Tr F p M w e p' M' w/\(∀b,p'.L b<->p.L b\/S b)/\(∀b,S b->¬p.L b)/\Rel (Imm F p' M' w) w o x S vs:=by
 have key:(match conv gid o.strip v M with
  |some (q,e,M')=>(match wkO q o with|some x=>some (x,e,M')|none=>FJ M o v)
  |none=>none)=some (x,e,M')->∃p',∃S:Nat->Prop,Tr F p M w e p' M' w/\(∀b,p'.L b<->p.L b\/S b)/\(∀b,S b->¬p.L b)/\Rel (Imm F p' M' w) w o x S vs:=λh=>by
  split at h
  ·rename_i q e1 M1 hc;split at h
   ·rename_i y hy;cases h;obtain⟨_,p1,S,cv⟩:=ve gid o.strip v M p vs q e M' hp r hc;obtain⟨w1,w2⟩:=th hy;obtain⟨S',s1,s2⟩:=ni q.o o w1 q.x x S vs w2 cv.rel;have hd:=Tr.drop cv.tr.hp (λb=>p.L b\/S' b) (λb hb=>(cv.L b).2 (hb.imp id (s1 b)));refine⟨⟨p1.β,p1.σ,λb=>p.L b\/S' b⟩,S',by have:=cv.tr.trans hd;rwa [tA]at this,λb=>lh,λb hb=>cv.sp b (s1 b hb),s2 _ (λb hb=>(hd.keep b hb).1) (λb hb hn=>?_)⟩;have hl:=cv.tr.hp.lim b ((cv.L b).2 (.inr hb));exact⟨hl.1,.inr hl.2.1.r,λh=>h.elim (cv.sp b hb) hn,hl.2.2⟩
   ·exact ac4 hp o v vs x e r h
  ·cases h
 cases o with
 |fz t=>
  simp only[FR]at h;have hf:=xd v M hp;generalize cD M v=z at h hf;obtain⟨e1,M1⟩:=z;simp only at h hf;split at h
  ·rename_i y hy;cases h;exact⟨p,λ_=>False,hf,λb=>ak,λb hb=>hb.elim,by simp only[Rel];exact o7 _ t vs x (hf.c _ _ r) hy⟩
  ·cases h
 |p a b|sl a|pt a|mp _ _|op _=>exact key h
theorem Sx(hB:TabOk P B):(rs:List ResultVar)->(qs:gS)->(p:Ow)->(env:Env)->(M:Mem)->(y:bV qs)->Hp F p M w->(∀t,aj p.β M (Imm F p M w) w (gt env t) (a.tmps.getD t undef))->xS B env M rs qs=some y->
  ∃us p' M',∃S:Nat->Prop,(rs.mapM (BO a.tmps)).run P w=.ok us w/\Hp F p' M' w/\cN (Imm F p M w) (Imm F p' M' w) w w/\(∀b,p.L b->p'.L b)/\(∀b,S b->p'.L b)/\(∀b,S b->¬p.L b)/\cW (Imm F p' M' w) w qs y S us
 |[],[],p,env,M,y,hp,hs,h=>by exact⟨[],p,M,λ_=>False,rfl,hp,cN.refl _ _,λb hb=>hb,λb hb=>hb.elim,λb hb=>hb.elim,by simp only[cW]⟩
 |[],_::_,p,env,M,y,hp,hs,h|_::_,[],p,env,M,y,hp,hs,h=>by simp[xS]at h
 |r::rs,q::qs,p,env,M,y,hp,hs,h=>by
  simp only[xS]at h;split at h
  ·rename_i v hv
   cases hc:fZ (eS q.1 v)with
   |false=>rw[hc]at h;cases h
   |true=>
    rw[hc]at h;simp only[aD]at h;split at h
    ·rename_i x e M1 ho;split at h
     ·rename_i z hz;cases h;obtain⟨u,u1,u2⟩:=Rq (P:=P) (a:=a) hB hp hs r v hv;obtain⟨vs,g1,g2,g3⟩:=Ss hp u2 hc;obtain⟨p1,S,t1,t2,t3,t4⟩:=Ru hp q.2 (eS q.1 v) vs x e g3 ho;obtain⟨us,p2,M2,S2,k1,k2,k3,k4,k5,k6,k7⟩:=Sx hB rs qs p1 (fL env e) M1 z t1.hp (λt=>by rw[l6];exact t1.s _ _ (hs t)) hz;refine⟨u::us,p2,M2,λb=>S b\/S2 b,?_,k2,t1.keep.trans k3,λb hb=>k4 b ((t2 b).2 (.inl hb)),λb hb=>hb.elim (λh=>k4 b ((t2 b).2 (.inr h))) (k5 b),λb hb=>hb.elim (t3 b) (λh hL=>k6 b h ((t2 b).2 (.inl hL))),?_⟩
      ·simp only[List.mapM_cons,gU,u1,jn,k1,oS]
      ·simp only[cW];exact⟨u,us,vs,S,S2,rfl,g1,g2,λb hb=>.inl hb,λb hb=>.inr hb,λb hb hb'=>k6 b hb' ((t2 b).2 (.inr hb)),Rel.keep k3 _ _ _ _ (λ_ _=>rfl) t4,k7⟩
     ·cases h
    ·cases h
  ·cases h
theorem AF:∀(l:cK)(i t:Nat),gt (kV i l) t=if i<=t then (l[t-i]?).getD .any else .any
 |[],i,t=>by simp[kV,gt]
 |x::r,i,t=>by
  simp only[kV];rw[gY];by_cases h:i=t
  ·subst h;simp
  ·rw[ai h,AF r (Nat.succ i) t];by_cases h1:Nat.succ i<=t
   ·rw[am h1,am aa,show t-i=(t-Nat.succ i)+1 by omega];simp
   ·rw[ai h1,ai aa]
theorem D7{A Im:aT}{β:gM}{M:Mem}(hA:∀b,A b->Im b):(gs:fw)->(ts:eT)->(x:bo ts)->(us:aJ)->dL A w gs ts x us->(qs:List TypeId)->(m:Nat)->gs=ap (qs.map (λq=>(B.τ q).agg)) (iR false m)->us.length=gs.length/\(gJ B qs ts x).length=gs.length/\ab (okL ts x)/\
  ∀(i:Nat)(v:V)(u:bm),(gJ B qs ts x)[i]? = some v->us[i]? = some u->aj β M Im w v u
 |[],[],x,us,h,qs,_,_=>by simp only[dL]at h;subst h;exact⟨rfl,by cases qs<;>rfl,trivial,λi v u hv=>by cases qs<;>simp[gJ]at hv⟩
 |[],_::_,x,us,h,_,_,_|_::_,[],x,us,h,_,_,_=>by simp[dL]at h
 |g::gs,t::ts,x,us,h,[],m,e=>by
  simp only[dL]at h;obtain⟨u,us',vs,rfl,h1,h2,h3,h4⟩:=h
  cases m with
  |zero=>simp[ap,iR]at e
  |succ m=>
   simp only[nP,ap,iR,bH]at e;obtain⟨i1,i2,i3,i4⟩:=D7 (β:=β) (M:=M) hA gs ts x.2 us' h4 [] m (by simpa only [nP,ap]using e.2);refine⟨by simp[i1],by simp[gJ,i2],by simp only[okL,fW];exact⟨kA _ _ (ah.ok _ _ _ h3),i3⟩,λi v u' hv hu=>?_⟩
   cases i with
   |zero=>simp only[gJ,jG,aG]at hv hu;subst hv;subst hu;have r:ac β M Im w (fm t x.1) vs:=fG t x.1 vs (ah.keep (λb hb=>⟨hA b hb,rfl⟩) _ _ _ h3);have:=h2 e.1;subst this;exact ky r
   |succ i=>exact i4 i v u' (by simpa[gJ]using hv) (by simpa using hu)
 |g::gs,t::ts,x,us,h,q::qs,m,e=>by
  simp only[dL]at h;obtain⟨u,us',vs,rfl,h1,h2,h3,h4⟩:=h;simp only[gO,ap,bH]at e;obtain⟨i1,i2,i3,i4⟩:=D7 (β:=β) (M:=M) hA gs ts x.2 us' h4 qs m e.2;refine⟨by simp[i1],by simp[gJ,i2],by simp only[okL,fW];exact⟨kA _ _ (ah.ok _ _ _ h3),i3⟩,λi v u' hv hu=>?_⟩
  cases i with
  |zero=>
   simp only[gJ,jG,aG]at hv hu;subst hv;subst hu;have r:ac β M Im w (fm t x.1) vs:=fG t x.1 vs (ah.keep (λb hb=>⟨hA b hb,rfl⟩) _ _ _ h3);rw[←e.1]
   cases g with
   |true=>simp only[lF,aD,aj];exact⟨vs,h1 rfl,r⟩
   |false=>have:=h2 rfl;subst this;simp only[lF,bp];exact ky r
  |succ i=>exact i4 i v u' (by simpa[gJ]using hv) (by simpa using hu)
theorem Uo (hB : TabOk P B)    (hf : P.funcs[f]? = some fn) (hb : fn.body = some c) (hn : (fn.name == "runtime.NumGoroutine") = false) (ct : Ct) (Q : bo ct.args -> bV ct.rt -> Prop)
  (hga:ct.ga=agL B fn) (hfl:orb ct.sh (oz ct.rt)=true) (hlen:ct.ga.length<=fn.ntmps)
  (h:∀x,ab (okL ct.args x)->ab (ct.pre x)->∀(F:Fr)(p:Ow)(a:Act)(w:aK),lI P F->F.nt=fn.ntmps->F.fv=(λ_=>none)->St F p (kV 0 (gJ B (toL fn.params) ct.args x)) [] a w->c.wp P (jb F (vU B (toL fn.results) ct.rt (Q x))) a w):∀(A:aT)(w:aK)(us:aJ)(x:bo ct.args),ErrG P A w->(∀b,A b->b<w.heap.size)->dL A w ct.ga ct.args x us->ab (ct.pre x)->
  Calls P f us.toArray w λe w'=>∃r rs S,Q x r/\e=.returned (eR rs)/\Ext w w'/\(∀b,S b->w.heap.size<=b/\b<w'.heap.size)/\
   cW (λb=>b<w'.heap.size/\(ct.sh=true/\A b\/w.heap.size<=b)/\¬S b) w' ct.rt r S rs:=by
 intro Ab w us x hE hA hrel hpre;let F:Fr:=⟨w,w,Ab,λ_=>False,λ_=>False,fn.ntmps,λ_=>none,False⟩
 let p0:Ow:=⟨λ_=>undef,λ_ _=>False,λ_=>False⟩
 have himm:∀b,Ab b->Imm F p0 [] w b:=λb hb=>⟨hA b hb,.inl hb,λh=>h,λk hk=>by simp[bF,go]at hk⟩;obtain⟨l1,l2,l3,l4⟩:=D7 (B:=B) (β:=p0.β) (M:=[]) himm ct.ga ct.args x us hrel (toL fn.params) fn.nfree hga
 have hst:St F p0 (kV 0 (gJ B (toL fn.params) ct.args x)) [] { tmps:=us.toArray++Array.replicate (fn.ntmps-us.toArray.size) undef,defers:=[] } w:=by
  refine⟨rfl,by simp[F];omega,λt v ht=>by simp[F]at ht,λb hb=>hb.elim,λb hb=>hb,λt=>?_,⟨λk o hk=>by simp[go]at hk,λk k' b _ hk=>by simp[bF,go]at hk,λk b hk=>by simp[bF,go]at hk,λb hb=>hb.elim,rfl,⟨rfl,aZ _⟩,rfl,aZ _,λb _ _=>rfl⟩⟩;rw[AF];simp only[dO,eX,yO]
  cases hx:(gJ B (toL fn.params) ct.args x)[t]? with
  |none=>simp only[wn,aj]
  |some v=>
   have ht:=(gN.1 hx).1;have hu:us[t]? = some us[t]:=bX aa;simp only[dY];have:(us.toArray++Array.replicate (fn.ntmps-us.toArray.size) undef).getD t undef=us[t]:=by rw[yR,yP (by have:=(gN.1 hu).1;simpa using this)];simp[hu]
   rw[this];exact l4 t v _ hx hu
 refine calls_of_wp hf hb (qm (λe a' w' he=>?_) (h x l3 hpre F p0 _ w (hE.of λb hb _=>⟨⟨hb,λh=>h⟩,rfl⟩) rfl rfl hst))
 have key:∀p env M,St F p env M a' w'->BF (xS B env M (toL fn.results) ct.rt) (Q x)->(e=.normal\/e=.ret)->bodyPost P fn (λe w'=>∃r rs S,Q x r/\e=.returned (eR rs)/\Ext w w'/\(∀b,S b->w.heap.size<=b/\b<w'.heap.size)/\
   cW (λb=>b<w'.heap.size/\(ct.sh=true/\Ab b\/w.heap.size<=b)/\¬S b) w' ct.rt r S rs) e a' w':=by
  intro p env M hs hr hee;unfold BF at hr;split at hr
  ·rename_i r hres;obtain⟨rs,p',M',S,k1,k2,k3,k4,k5,k6,k7⟩:=Sx (P:=P) (a:=a') hB (toL fn.results) ct.rt p env M _ hs.hp hs.slots hres;rw[ds]at k1
   have hrun:(results fn a'.tmps).run P w'=.ok (eR rs) w':=by
    rw[Dm,Cc];simp only[gU,Sem.run_map,k1,jn,oS]
    match rs with
    |[]|[u]=>rfl
    |u::u'::r=>simp[eR]
   have hpost:∃r' rs' S,Q x r'/\Ending.returned (eR rs)=.returned (eR rs')/\Ext w w'/\(∀b,S b->w.heap.size<=b/\b<w'.heap.size)/\cW (λb=>b<w'.heap.size/\(ct.sh=true/\Ab b\/w.heap.size<=b)/\¬S b) w' ct.rt r' S rs':=by
    refine⟨r,rs,S,hr,rfl,⟨k2.os,k2.tape,k2.output,k2.size,λb hb=>k2.old b hb (λh=>h)⟩,λb hb=>⟨(k2.lim b (k5 b hb)).2.1.elim id (λh=>h.1.elim),(k2.lim b (k5 b hb)).1⟩,?_⟩;rw[gD,fR]at hfl;rcases hfl with hsh|hfl
    ·refine cW.keep (λb hb=>⟨hb.1,?_,λhS=>hb.2.2.1 (k5 b hS)⟩) _ _ _ _ k7;rcases hb.2.1 with h1|h1|h1
     ·exact .inl ⟨hsh,h1⟩
     ·exact h1.elim
     ·exact .inr h1
    ·exact PD _ hfl _ _ _ k7
   rcases hee with rfl|rfl
   ·exact⟨hs.defers,_,hrun,hpost⟩
   ·exact⟨hs.defers,_,hrun,hpost⟩
  ·exact hr.elim
 cases e with
 |normal=>obtain⟨p,env,M,h1,h2⟩:=he;exact key p env M h1 h2 (.inl rfl)
 |ret=>obtain⟨p,env,M,h1,h2⟩:=he;exact key p env M h1 h2 (.inr rfl)
 |exit id|goto l=>obtain⟨p,env,M,h1,h2⟩:=he;exact h2.elim
 |panic ch|outgrown=>exact he.elim
theorem af5 (hB : TabOk P B)    (hf : P.funcs[f]? = some fn) (hb : fn.body = some c) (hn : (fn.name == "runtime.NumGoroutine") = false) (ct : Ct) (hmu : ct.mu = none)
  (hga:ct.ga=agL B fn) (hfl:orb ct.sh (oz ct.rt)=true) (hlen:ct.ga.length<=fn.ntmps)
  (h:∀x,ab (okL ct.args x)->ab (ct.pre x)->∀(F:Fr)(p:Ow)(a:Act)(w:aK),lI P F->F.nt=fn.ntmps->F.fv=(λ_=>none)->St F p (kV 0 (gJ B (toL fn.params) ct.args x)) [] a w->c.wp P (jb F (vU B (toL fn.results) ct.rt (λr=>r=ct.res x))) a w):aN P f ct:=by
 refine⟨sS hf hb hn,?_⟩;simp only[hmu,vT];intro Ab w us x hE hA hrel hpre cs;obtain⟨e,w',fr,⟨r,rs,S,hr,h1⟩,h2⟩:=Uo hB hf hb hn ct (λx r=>r=ct.res x) hga hfl hlen h Ab w us x hE hA hrel hpre cs;subst hr;exact⟨e,w',fr,⟨rs,S,h1⟩,h2⟩
theorem afi (hΦ : gK P Φ) (hB : TabOk P B) (hmix : P.follows .mixedOrders = true)    (hf : P.funcs[f]? = some fn) (hb : fn.body = some c) (hn : (fn.name == "runtime.NumGoroutine") = false) (ct : Ct) (hmu : ct.mu = none) (A : Ann) (cut : Nat -> Nat)
  (hga:ct.ga=agL B fn) (hfl:orb ct.sh (oz ct.rt)=true) (hck:okC fn.ntmps cut c=true) (hlen:ct.ga.length<=fn.ntmps)
  (h:∀x,ab (okL ct.args x)->ab (ct.pre x)->evF B Φ cut fn c A ct x (λr=>r=ct.res x)):aN P f ct:=
 af5 hB hf hb hn ct hmu hga hfl hlen λx h1 h2 F p a w hG e1 e2 hst=>lA hΦ hB hmix cut c F hG A _ _ _ (by rw[e1];exact hck) (by rw[e2];exact sN c) (h x h1 h2) p a w hst
def wJ(P:d4)(r:TypeId->T->Bool):List Field->Nat->T->Bool
 |[],_,.u=>true
 |[f],off,d=>aP [Nat.beq f.offset off,Nat.beq (P.cellsOf f.type) d.size,r f.type d]
 |f::g::l,off,.p a b=>nob (aP [Nat.beq f.offset off,Nat.beq (P.cellsOf f.type) a.size,r f.type a]) (wJ P r (g::l) (off+a.size) b)
 |_,_,_=>false
def rX(P:d4):Nat->TypeId->T->Bool
 |0,_,_=>false
 |n+1,t,d=>match P.underlying t,d with
  |some (.int k),.int k'=>j9 k k'
  |some .bool,.bool|some .string,.str=>true
  |some (.slice e),.sl d=>aP [rX P n e d,Nat.beq (P.cellsOf e) d.size,neg (Nat.beq (P.bytesOf e) 0),neg (isZ d.size)]
  |some (.struct fs),d=>nob (Nat.beq (P.cellsOf t) d.size) (wJ P (rX P n) fs.toList 0 d)
  |_,_=>false
section
variable {enc:TypeId×Value->H}
theorem Td{Im:aT}{r:TypeId->T->Bool}{cs:aJ}:(l:List Field)->(off:Nat)->(d:T)->wJ P r l off d=true->(cs.drop off).length=d.size->
  (∀f∈l,∀d',r f.type d'=true->∃y,ah Im w d' y ((cs.drop f.offset).take (P.cellsOf f.type)))->∃y,ah Im w d y (cs.drop off)
 |[],off,.u,_,hl,_=>⟨(),by simp only[ah];exact iS hl⟩
 |[f],off,d,h,hl,hf=>by
  have h':aP [Nat.beq f.offset off,Nat.beq (P.cellsOf f.type) d.size,r f.type d]=true:=by cases d<;>simpa only [wJ]using h
  simp only[bQ,bT,bM,ao]at h';obtain⟨y,hy⟩:=hf f ak d h'.2.2;have e1:=dh h'.1;have e2:=dh h'.2.1;rw[e1,e2,uh aa]at hy;exact⟨y,hy⟩
 |f::g::l,off,.p a b,h,hl,hf=>by simp only[wJ,aU,ao,bQ,bT,bM]at h;obtain⟨⟨h1,h2,h3⟩,h4⟩:=h;have e1:=dh h1;have e2:=dh h2;obtain⟨y,hy⟩:=hf f ak a h3;simp only[T.size,DP]at hl;obtain⟨z,hz⟩:=Td (g::l) (off+a.size) b h4 (by rw[iz]at hl⊢;omega) (λf' hf'=>hf f' (by simp[cQ]at hf'⊢;exact .inr hf'));rw[e1,e2]at hy;refine⟨(y,z),?_⟩;simp only[ah];refine⟨_,_,?_,hy,hz⟩;rw[←wj,kx]
 |[],_,.int _,h,_,_|[],_,.bool,h,_,_|[],_,.str,h,_,_|[],_,.p _ _,h,_,_|[],_,.sl _,h,_,_|[],_,.pt _,h,_,_|[],_,.fn _ _,h,_,_|[],_,.any,h,_,_|_::_::_,_,.int _,h,_,_|_::_::_,_,.bool,h,_,_|_::_::_,_,.str,h,_,_|_::_::_,_,.u,h,_,_|_::_::_,_,.sl _,h,_,_|_::_::_,_,.pt _,h,_,_|_::_::_,_,.fn _ _,h,_,_|_::_::_,_,.any,h,_,_=>by simp[wJ]at h
theorem O3{e:bW}:∀(l:List (DataW H)) (q:Nat->Bool),(DataW.weightsAll P e l).all q=true->∀d∈l,(d.weights P e).all q=true
 |[],q,_,d,hd=>by cases hd
 |x::l,q,h,d,hd=>by
  simp only[DataW.weightsAll,yX,ao]at h;rcases cQ.1 hd with rfl|hd
  ·exact h.1
  ·exact O3 l q h.2 d hd
theorem Oj:∀(ts:List TypeId)(l:List (DataW H)) (q:Nat->Bool),(DataW.weightsEach P ts l).all q=true->∀(i:Nat) t d,ts[i]? = some t->l[i]? = some d->(d.weights P t).all q=true
 |[],_,q,_,i,t,d,ht,_=>by simp at ht
 |_::_,[],q,_,i,t,d,_,hd=>by simp at hd
 |t0::ts,x::l,q,h,i,t,d,ht,hd=>by
  simp only[DataW.weightsEach,yX,ao]at h
  cases i with
  |zero=>simp at ht hd;subst ht;subst hd;exact h.1
  |succ i=>exact Oj ts l q h.2 i t d (by simpa using ht) (by simpa using hd)
theorem ad6:∀(n:Nat)(t:bW)(d:T),rX P n t d=true->∀(fuel:Nat)(cs:aJ)(x:DataW H×List MemPlace),DataW.trod enc P w base spare held fuel t cs=some x->(x.1.weights P t).all (·<=reachBytes)=true->
  ∃y:d.den,ah (λb=>b<w.heap.size) w d y cs:=by
 intro n
 induction n with
 |zero=>intro t d h;simp[rX]at h
 |succ n ih=>
  intro t d h fuel cs x hx hw;unfold rX at h;split at h
  ·rename_i k k' hu;have:=oi h;subst this;obtain⟨m,rfl,rfl,hwf⟩:=DataW.trod_int hu hx;exact⟨m,by simp only[ah,aL];simpa[Lit.wf,inK]using hwf⟩
  ·rename_i hu;obtain⟨b,rfl,rfl⟩:=DataW.trod_bool hu hx;exact⟨b,by simp only[ah]⟩
  ·rename_i hu;obtain⟨s,rfl,rfl,hs⟩:=DataW.trod_string hu hx;have hsz:s.size<=reachBytes:=by simpa[DataW.weights]using hw
   exact⟨s,by simp only[ah,aL];exact eu hsz bz⟩
  ·rename_i e d' hu;simp only[bQ,bT,bM,ao]at h;obtain⟨h1,h2,h3,h4⟩:=h;have e2:=dh h2;rcases DataW.trod_slice hu hx with⟨rfl,rfl⟩|⟨a,len,cap,elems,rest,m,_,rfl,rfl,hb,hl,hm,hlen,hel,_,_⟩
   ·exact⟨[],by simp only[ah];exact⟨none,0,rfl,⟨dO _,aZ _⟩,λ_=>⟨rfl,rfl⟩,λa ha=>by cases ha⟩⟩
   ·have hpos:0<d'.size:=by
     cases hz:d'.size with
     |zero=>rw[hz]at h4;simp[isZ]at h4
     |succ _=>omega
    have hbpos:0<P.bytesOf e:=by
     cases hz:P.bytesOf e with
     |zero=>rw[hz]at h3;simp at h3
     |succ _=>omega
    simp only[DataW.weights,hu,oX,yX,ao,cj,d5]at hw;obtain⟨w1,w2,w3⟩:=hw;have hnb:len<=nb:=by have h5:elems.length+rest.length<=(elems.length+rest.length)*P.bytesOf e:=Cn _ hbpos;simp only[reachBytes]at w1;unfold nb;omega
    have hall:∀i,i<len->∃y:d'.den,∃csi,w.cells? base (a.add (i*d'.size)) d'.size=some csi/\ah (λb=>b<w.heap.size) w d' y csi:=λi hi=>by have hq:=hel i hi;rw[e2]at hq;have hei:elems[i]? = some elems[i]:=bX aa;rw[hei]at hq;obtain⟨csi,q1,q2⟩:=Option.bind_eq_some_iff.1 hq;obtain⟨y,hy⟩:=ih e d' h1 m csi _ q2 (O3 _ _ w2 _ (List.mem_map_of_mem (rS aa)));exact⟨y,csi,q1,hy⟩
    classical
    let f:Nat->d'.den:=λi=>if hi:i<len then (hall i hi).choose else d'.dflt
    refine⟨(List.range len).map f,?_⟩;have hlen':((List.range len).map f).length=len:=ak
    simp only[ah];refine⟨some a,cap,by rw[hlen'],⟨by rw[hlen'];exact hnb,by rw[hlen'];exact hl⟩,(λh=>nomatch h),λa' ha' hp=>?_⟩;cases ha';rw[hlen']at hp;obtain⟨y0,cs0,c1,c2⟩:=hall 0 hp;obtain⟨g1,g2,g3⟩:=World.cells?_some c1;have hc0:=g3 0 hpos;have hl0:0<cs0.length:=aa
    rw[bX hl0]at hc0;have hadd0:(a.add (0*d'.size)).add 0=a:=by rw[Nat.zero_mul];unfold Addr.add;simp
    rw[hadd0]at hc0
    have hspot:a.spot=none:=by
     unfold World.cell? at hc0;split at hc0
     ·split at hc0
      ·cases hc0
      ·rename_i hs;simpa using hs
     ·cases hc0
    have hblk:a.block<w.heap.size:=by
     unfold World.cell? at hc0;split at hc0
     ·rename_i hb;exact (eF.1 hb).1
     ·cases hc0
    refine⟨hspot,hblk,λi y hy=>?_⟩;rw[fQ]at hy;by_cases hi:i<len
    ·rw[nO hi]at hy;simp only[dX,aG]at hy;have hf:f i=(hall i hi).choose:=by simp only[f,dif_pos hi]
     rw[hf]at hy;obtain⟨csi,q1,q2⟩:=(hall i hi).choose_spec;rw[hy]at q2;obtain⟨r1,r2,r3⟩:=World.cells?_some q1;refine⟨csi,λj u hu'=>?_,q2⟩;have hj:j<d'.size:=by have:=(gN.1 hu').1;omega
     have:=r3 j hj;obtain⟨b,o,sp⟩:=a;simp only at hspot;subst hspot;rw[qw,qw]at this;rw[this];exact hu'
    ·rw[jj (by simpa using hi)]at hy;cases hy
  ·rename_i _ fs hu;simp only[aU,ao]at h;have e1:=dh h.1;obtain⟨xs,m,_,rfl,hl,hxl,hf⟩:=DataW.trod_struct hu hx;simp only[DataW.weights,hu]at hw
   have:=Td (w:=w) (Im:=λb=>b<w.heap.size) (cs:=cs) fs.toList 0 _ h.2 (by simp only[List.drop_zero];omega) (λf hfm d' hd'=>by
    obtain⟨i,hi,rfl⟩:=mL hfm;have hfi:fs[i]? = some fs[i]:=by simp at hi;simp[hi]
    have hq:=hf i _ hfi;have hi':i<xs.length:=by simp at hi;omega
    rw[bX hi']at hq;have hww:=Oj _ _ _ hw i fs[i].type xs[i].1 (by simp at hi;simp[hi]) (by simp[hi']);simpa using ih _ d' (by simpa using hd') m _ _ hq hww)
   simpa only [List.drop_zero]using this
  ·cases h
end
def Un(args:eT)(ga:fw):Ct:=⟨args,ga,λ_=>[],[(false,.fz .bool)],λ_=>(true,()),false,none⟩
theorem law_of_ct(h:aN P f (Un args ga)){x:bo args}(hE:ErrG P (λb=>b<w.heap.size) w)(hr:dL (λb=>b<w.heap.size) w ga args x vs):
  Calls P f vs.toArray w λe w'=>e=.returned (.bool true)/\Below w.heap.size w w':=
 (h.2 (λb=>b<w.heap.size) w vs x hE (λ_ hb=>hb) hr trivial).mono λe w' ⟨rs,S,he,hx,_,hres⟩=>by simp only[Un,cW]at hres;obtain⟨u,us',us,S1,S2,rfl,_,g2,_,_,_,hrel,rfl⟩:=hres;have:=g2 trivial;subst this;simp only[Rel,ah,bH,aA]at hrel;subst hrel;exact⟨he,hx.os,hx.tape.t,hx.output,hx.size,λk hk=>hx.old k hk⟩
def fa(f:Func):Code:=match f.body with|some c=>c|none=>.skip
def lkp:List (Nat×Ct)->FuncId->Option Ct
 |[],_=>none
 |(k,c)::r,f=>bif Nat.beq k f then some c else lkp r f
theorem aQ:gK P (lkp []):=λf ct h=>by cases h
theorem au{c:Ct}(h:aN P k c)(hr:gK P (lkp r)):gK P (lkp ((k,c)::r)):=by
 intro f ct hf;simp only[lkp]at hf
 cases hb:Nat.beq k f with
 |true=>rw[hb]at hf;have:=dh hb;subst this;cases hf;exact h
 |false=>rw[hb]at hf;exact hr f ct hf
def fN:List (Nat×Nat)->Nat->Nat
 |[],_=>0
 |(k,c)::r,f=>bif Nat.beq k f then c else fN r f
theorem aY{body:S->(S->Prop)->Prop}(R:S->Prop)(μ:S->Nat)(h:∀s next,R s->(∀s',R s'->μ s'<μ s->next s')->body s next){s:S}(hs:R s):aI body s:=by
 have key:∀n s,R s->μ s<n->jz body n s:=by
  intro n
  induction n with
  |zero=>intro s _ h;omega
  |succ n ih=>intro s hs hn;exact h s _ hs λs' hs' hl=>ih s' hs' aa
 exact⟨μ s+1,key _ s hs (Cp _)⟩
theorem il(P:Int->Prop)(hn:i0<=n)(h0:P i0)(hs:∀i next,i0<=i->i<n->P i->(P (i+1)->next ((i+1,()),()))->body ((i,()),()) next)(he:∀next,P n->body ((n,()),()) next):aI body ((i0,()),()):=by
 refine aY (λs=>i0<=s.1.1/\s.1.1<=n/\P s.1.1) (λs=>(n-s.1.1).toNat) ?_ ⟨cB _,hn,h0⟩;rintro⟨⟨i,_⟩,_⟩ next ⟨h1,h2,h3⟩ hnx
 dsimp only at h1 h2 h3 hnx;by_cases e:i=n
 ·subst e;exact he next h3
 ·exact hs i next h1 aa h3 λh4=>hnx _ ⟨ae,ae,h4⟩ ae
theorem PU{x:α}{body:(Unit×(Int×Unit))×(α×Unit)->((Unit×(Int×Unit))×(α×Unit)->Prop)->Prop}(P:Int->Prop)(hn:i0<=n)(h0:P i0)(hs:∀i next,i0<=i->i<n->P i->(P (i+1)->next (((),(i+1,())),(x,())))->body (((),(i,())),(x,())) next)(he:∀next,P n->body (((),(n,())),(x,())) next):aI body (((),(i0,())),(x,())):=by
 refine aY (λs=>s.2.1=x/\i0<=s.1.2.1/\s.1.2.1<=n/\P s.1.2.1) (λs=>(n-s.1.2.1).toNat) ?_ ⟨rfl,cB _,hn,h0⟩;rintro⟨⟨_,i,_⟩,y,_⟩ next ⟨hy,h1,h2,h3⟩ hnx
 dsimp only at hy h1 h2 h3 hnx;subst hy;by_cases e:i=n
 ·subst e;exact he next h3
 ·exact hs i next h1 aa h3 λh4=>hnx _ ⟨rfl,ae,ae,h4⟩ ae
theorem im(l:List α)(d:α)(h0:0<=i)(h1:i<l.length):l.drop i.toNat=l.getD i.toNat d::l.drop (i+1).toNat:=by
 have h:i.toNat<l.length:=aa
 rw[yT h,show (i+1).toNat=i.toNat+1 from by omega,bN,bX h];rfl
theorem jt(l:List α)(h1:(l.length:Int)<=i):l.drop i.toNat=[]:=yS aa
theorem fY(l:List α)(d:α)(h0:0<=i)(h1:i<l.length):l.take (i+1).toNat=l.take i.toNat++[l.getD i.toNat d]:=by
 have h:i.toNat<l.length:=aa
 rw[show (i+1).toNat=i.toNat+1 from by omega,List.take_succ_eq_append_getElem h,bN,bX h];rfl
theorem jv(l:List α)(h1:(l.length:Int)<=i):l.take i.toNat=l:=uh aa
theorem cC(l:List α)(d:α)(h0:0<=i)(h1:i<l.length):l.getD i.toNat d∈l:=by
 have h:i.toNat<l.length:=aa
 rw[bN,bX h];exact rS h
theorem cf:inK .i64 n<->-9223372036854775808<=n/\n<=9223372036854775807:=by simp[inK,IntKind.min,IntKind.max,IntKind.signed,IntKind.bits]
theorem az{p:Prop}(h:p:=by rw[cf];(try dsimp only);omega):p:=h
theorem bO:nb=140737488355328:=rfl
theorem aC(h1:b=true->x)(h2:b=false->y):cnd b x y:=⟨h1,h2⟩
theorem aE{p:Prop}[Decidable p](h1:p->x)(h2:¬p->y):cnd (decide p) x y:=⟨λh=>h1 (w6 h),λh=>h2 (Cd h)⟩
theorem cp{k:S->Prop}{f:(S->Prop)->Prop}(R:S->Prop)(hk:∀s,R s->k s)(hf:∀k',(∀s,R s->k' s)->f k'):bZ k f:=hf k hk
theorem Uq    (hΦ : gK P Φ) (hB : TabOk P B) (hmix : P.follows .mixedOrders = true)    (hf : P.funcs[f]? = some fn) (hb : fn.body = some c) (hn : (fn.name == "runtime.NumGoroutine") = false) (ct : Ct) (hmu : ct.mu = none) (A : Ann) (cut : Nat -> Nat)
  (hga:ct.ga=agL B fn) (hfl:orb ct.sh (oz ct.rt)=true) (hck:okC fn.ntmps cut c=true) (hlen:ct.ga.length<=fn.ntmps)
  (W:bo ct.args->(bV ct.rt->Prop)->Prop) (hw:∀x K,evF B Φ cut fn c A ct x K=W x K) (hm:∀x,ab (okL ct.args x)->ab (ct.pre x)->W x (λr=>r=ct.res x)):aN P f ct:=
 afi hΦ hB hmix hf hb hn ct hmu A cut hga hfl hck hlen λx h1 h2=>(hw x _).mpr (hm x h1 h2)
theorem aeb{pre:bo args->List Prop}{q:Nat->bo args->List Prop}{res:bo args->bV rt}(hc:D2 P f)(h0:∀x,¬ab (q 0 x))(hp:∀x,ab (pre x)->∃n,ab (q n x))(hs:∀n,aN P f ⟨args,ga,q n,rt,res,sh,none⟩->aN P f ⟨args,ga,q (n+1),rt,res,sh,none⟩):aN P f ⟨args,ga,pre,rt,res,sh,none⟩:=by
 have key:∀n,aN P f ⟨args,ga,q n,rt,res,sh,none⟩:=by
  intro n
  induction n with
  |zero=>exact⟨hc,λA w us x _ _ _ h=>absurd h (h0 x)⟩
  |succ n ih=>exact hs n ih
 refine⟨hc,λA w us x hE hA hr h=>?_⟩;obtain⟨n,hn⟩:=hp x h;exact (key n).2 A w us x hE hA hr hn
open Go.WideShapes
def LI(P:d4)(t:bW):Bool:=match P.underlying t with|some (.struct _)=>true|_=>false
theorem open_arg{enc:TypeId×Value->H}{b1:Nat}{dd:DataW H}(n:Nat)(d:T)(g:bC)(hty:rX P n t d=true)(hg:LI P t=g)(hv:Value.okWide P W .any b1 t v)(hk:DataW.Trod enc P W base spare held t v dd ps)(hw:(dd.weights P t).all (·<=reachBytes)=true):
  ∃(y:d.den)(vs:aJ),(g=true->v=.agg vs.toArray)/\(g=false->vs=[v])/\ah (λb=>b<W.heap.size) W d y vs:=by
 obtain⟨fuel,hf⟩:=hk;obtain⟨y,hy⟩:=ad6 n t d hty fuel _ _ hf hw;refine⟨y,v.cells.toList,λh=>?_,λh=>?_,hy⟩
 ·subst hg;simp only[LI]at h;split at h
  ·rename_i fs hu;obtain⟨cs,rfl,_⟩:=okWide_struct hu hv;simp[Value.cells]
  ·cases h
 ·subst hg
  cases n with
  |zero=>simp[rX]at hty
  |succ n=>
   unfold rX at hty;split at hty
   ·rename_i k k' hu;obtain⟨m,rfl⟩:=okWide_int hu hv;rfl
   ·rename_i hu;obtain⟨m,rfl⟩:=okWide_bool hu hv;rfl
   ·rename_i hu;obtain⟨m,rfl⟩:=okWide_string hu hv;rfl
   ·rename_i e d' hu;obtain⟨a,l,c,rfl⟩:=okWide_slice hu hv;rfl
   ·rename_i fs hu;simp[LI,hu]at h
   ·cases hty
structure Inn (w:aK) (j j':Nat) (N:Mem) (v:V) (vs:aJ) (S:aT) (β:gM) (σ:y9):Prop where
 le:j<=j'
 keys:∀k,bF N k->∃i,j<=i/\i<j'/\k=cid 9000 i
 objs:∀(Im:aT) k ob,go N k=some ob->Rel Im w ob.o ob.x (σ k) [β k]
 sub:∀k b,bF N k->σ k b->S b
 dis:∀k k' b,k≠k'->bF N k->bF N k'->σ k b->¬σ k' b
 val:∀(Im:aT)(β':gM)(M':Mem),(∀k,bF N k->β' k=β k/\go M' k=go N k)->ac β' M' Im w v vs
def iO(W:Wt):Ct:=⟨[],[],λ_=>[],[],λ_=>(),false,some (.w W)⟩
theorem x7{α:Type}(u:α):∀(i:Nat)(l:List α),(ew i u l).length=l.length+1
 |0,l|i+1,[]=>rfl
 |i+1,x::l=>by simp only[ew,aH];rw[x7 u i l]
theorem Em{α:Type}(u:α):∀(i:Nat)(l:List α),i<=l.length->∀t,(ew i u l)[t]? = if t<i then l[t]? else if t=i then some u else l[t-1]?
 |0,l,_,0|0,l,_,t+1=>by simp[ew]
 |i+1,[],h,_=>by simp at h
 |i+1,x::l,h,0=>by simp[ew]
 |i+1,x::l,h,t+1=>by
  simp only[ew,oR];rw[Em u i l (by simpa using h) t];rcases Nat.lt_trichotomy t i with h1|h1|h1
  ·rw[am h1,am (Nat.succ_lt_succ h1)]
  ·rw[ai aa,am h1,ai aa,am aa]
  ·rw[ai aa,ai aa,ai aa,ai aa];obtain⟨s,rfl⟩:∃s,t=s+1:=⟨t-1,aa⟩;simp
theorem K8{f:TypeId->Bool}:∀(i:Nat)(ag:fw)(ps:List TypeId)(n:Nat),i<=ag.length->ew i false ag=ap (ps.map f) (iR false n)->∃m,ag=ap ((m6 i ps).map f) (iR false m)
 |0,ag,[],0,_,h=>by simp[ew,ap,iR]at h
 |0,ag,[],n+1,_,h=>by simp only[ew,nP,ap,iR,bH,aL]at h;exact⟨n,by simpa[m6,pkN,ap]using h⟩
 |0,ag,q::qs,n,_,h=>by simp only[ew,gO,ap,bH]at h;exact⟨n,by simpa[m6,pkN]using h.2⟩
 |i+1,[],_,_,hi,_=>by simp at hi
 |i+1,b::ag,[],0,_,h=>by simp[ew,ap,iR]at h
 |i+1,b::ag,[],n+1,hi,h=>by simp only[ew,nP,ap,iR,bH]at h;obtain⟨m,e⟩:=K8 (f:=f) i ag [] n (by simpa using hi) (by simpa[ap]using h.2);refine⟨m+1,?_⟩;rw[h.1,e];cases i<;>simp[m6,pkN,ap,iR]
 |i+1,b::ag,q::qs,n,hi,h=>by
  simp only[ew,gO,ap,bH]at h;obtain⟨m,e⟩:=K8 i ag qs n (by simpa using hi) h.2;refine⟨m,?_⟩;rw[h.1,e];unfold m6;simp only[pkN]
  cases pkN i qs with
  |none|some q=>simp[ap]
def Bq:O->Nat->V
 |.pt _,k=>.ad k [.de]
 |_,k=>.ref k []
def xR(B:Tab)(env:Env)(M:Mem):List ResultVar->(rs:gS)->Option (bV rs×List Ev×Mem)
 |[],[]=>some ((),[],M)
 |r::rs,q::qs=>(match BI B env M r with
  |some v=>bif fZ (eS q.1 v)then (match FR M q.2 (eS q.1 v)with
   |some (x,e,M')=>(match xR B (fL env e) M' rs qs with
    |some (y,e',M'')=>some ((x,y),ap e e',M'')
    |none=>none)
   |none=>none)else none
  |none=>none)
 |_,_=>none
def Bg(B:Tab)(rs:List ResultVar)(W:Wt)(K:W.o.strip.den->bV W.rt->Prop)(env:Env)(M:Mem):Prop:=
 match xR B env M rs W.rt with
 |some (r,e,M')=>(match pK ((gt env W.i).evs e)with
  |some k=>(match go M' k with
   |some ob=>(match wkO ob W.o with
    |some z=>K z r
    |none=>False)
   |none=>False)
  |none=>False)
 |none=>False
def BU(B:Tab)(rs:List ResultVar)(W:Wt)(K:W.o.strip.den->bV W.rt->Prop):Ex->Env->Mem->Prop
 |.ex _,_,_|.go _,_,_=>False
 |.nm,env,M|.rt,env,M=>Bg B rs W K env M
def kP(B:Tab)(Φ:dM)(cut:nK)(fn:Func)(c:Code)(A:Ann)(W:Wt)(x:W.o.strip.den)(y:bo W.as)(K:W.o.strip.den->bV W.rt->Prop):Prop:=ev B Φ cut c A (BU B (toL fn.results) W K) (kV 0 (ew W.i (Bq W.o (cid 9000 0)) (gJ B (m6 W.i (toL fn.params)) W.as y))) [(cid 9000 0,⟨W.o,x⟩)]
theorem PR(hB:TabOk P B):(rs:List ResultVar)->(qs:gS)->(p:Ow)->(env:Env)->(M:Mem)->(y:bV qs)->(e:cg)->(M':Mem)->Hp F p M w->(∀t,aj p.β M (Imm F p M w) w (gt env t) (a.tmps.getD t undef))->xR B env M rs qs=some (y,e,M')->
  ∃us p',∃S:Nat->Prop,(rs.mapM (BO a.tmps)).run P w=.ok us w/\Tr F p M w e p' M' w/\(∀b,p.L b->p'.L b)/\(∀b,S b->p'.L b)/\(∀b,S b->¬p.L b)/\cW (Imm F p' M' w) w qs y S us
 |[],[],p,env,M,y,e,M',hp,hs,h=>by simp only[xR,aG,bS]at h;obtain⟨_,rfl,rfl⟩:=h;exact⟨[],p,λ_=>False,rfl,Tr.refl hp,λb hb=>hb,λb hb=>hb.elim,λb hb=>hb.elim,by simp only[cW]⟩
 |[],_::_,p,env,M,y,e,M',hp,hs,h|_::_,[],p,env,M,y,e,M',hp,hs,h=>by simp[xR]at h
 |r::rs,q::qs,p,env,M,y,e,M',hp,hs,h=>by
  simp only[xR]at h;split at h
  ·rename_i v hv
   cases hc:fZ (eS q.1 v)with
   |false=>rw[hc]at h;cases h
   |true=>
    rw[hc]at h;simp only[aD]at h;split at h
    ·rename_i x e1 M1 ho;split at h
     ·rename_i z e2 M2 hz;cases h;obtain⟨u,u1,u2⟩:=Rq (P:=P) (a:=a) hB hp hs r v hv;obtain⟨vs,g1,g2,g3⟩:=Ss hp u2 hc;obtain⟨p1,S,t1,t2,t3,t4⟩:=Ru hp q.2 (eS q.1 v) vs x e1 g3 ho;obtain⟨us,p2,S2,k1,k3,k4,k5,k6,k7⟩:=PR hB rs qs p1 (fL env e1) M1 z e2 M' t1.hp (λt=>by rw[l6];exact t1.s _ _ (hs t)) hz;refine⟨u::us,p2,λb=>S b\/S2 b,?_,t1.trans k3,λb hb=>k4 b ((t2 b).2 (.inl hb)),λb hb=>hb.elim (λh=>k4 b ((t2 b).2 (.inr h))) (k5 b),λb hb=>hb.elim (t3 b) (λh hL=>k6 b h ((t2 b).2 (.inl hL))),?_⟩
      ·simp only[List.mapM_cons,gU,u1,jn,k1,oS]
      ·simp only[cW];exact⟨u,us,vs,S,S2,rfl,g1,g2,λb hb=>.inl hb,λb hb=>.inr hb,λb hb hb'=>k6 b hb' ((t2 b).2 (.inr hb)),Rel.keep k3.keep _ _ _ _ (λ_ _=>rfl) t4,k7⟩
     ·cases h
    ·cases h
  ·cases h
theorem wt_q (hΦ : gK P Φ) (hB : TabOk P B) (hmix : P.follows .mixedOrders = true)    (hf : P.funcs[f]? = some fn) (hb : fn.body = some c) (hn : (fn.name == "runtime.NumGoroutine") = false) (W : Wt) (pr : W.o.strip.den -> bo W.as -> Prop) (Q : W.o.strip.den -> bo W.as -> W.o.strip.den -> bV W.rt -> Prop) (A : Ann) (cut : Nat -> Nat)
  (hro:nr W.o=true) (hi:W.i<=W.ag.length) (hga:ew W.i false W.ag=agL B fn) (hck:okC fn.ntmps cut c=true) (hlen:W.ag.length+1<=fn.ntmps) (hnw:noW [W.i] c=true)
  (h:∀x y,ab (W.o.strip.oks x)->ab (okL W.as y)->pr x y->kP B Φ cut fn c A W x y (Q x y)) :
  ∀(A:aT)(w:aK)(u:bm)(x:W.o.strip.den)(us:aJ)(y:bo W.as)(S:aT),ErrG P A w->(∀b,A b->b<w.heap.size)->(∀b,S b->b<w.heap.size/\¬A b)->
  Rel (λb=>A b) w W.o x S [u]->dL A w W.ag W.as y us->pr x y->
  Calls P f (ew W.i u us).toArray w λe w'=>∃z r rs R S',Q x y z r/\e=.returned (eR rs)/\ExtS w w' S/\(∀b,R b->w.heap.size<=b/\b<w'.heap.size)/\(∀b,S' b->(S b\/w.heap.size<=b/\b<w'.heap.size)/\¬R b)/\
   Rel (λb=>b<w'.heap.size/\(A b\/S b\/w.heap.size<=b)/\¬S' b/\¬R b) w' W.o z S' [u]/\
   cW (λb=>b<w'.heap.size/\(A b\/S b\/w.heap.size<=b)/\¬S' b/\¬R b) w' W.rt r R rs:=by
 intro Ab w u x us y S hE hAlt hSlt hr hargs hpre;let a0:Act:={ tmps:=(ew W.i u us).toArray++Array.replicate (fn.ntmps-(ew W.i u us).toArray.size) undef,defers:=[] }
 have hoks:ab (W.o.strip.oks x):=by have h1:=Rel.frz (Im':=λ_=>True) (λ_ _=>trivial) W.o x S [u] (λ_ _=>trivial) hr;have h2:=kA _ _ (ah.ok _ _ _ h1);exact h2
 let F:Fr:=⟨w,w,Ab,S,λ_=>False,fn.ntmps,kr (λ_=>none) [W.i] a0,False⟩
 let p0:Ow:=⟨λ_=>u,λ_=>S,λ_=>False⟩
 have hkk:gid=cid 9000 0:=bz
 replace h:=λh1 h2=>h x y h1 h2 hpre;unfold kP at h;generalize cid 9000 0=kk at hkk h;generalize hM0:([(kk,⟨W.o,x⟩)]:Mem)=M0;have hg0:go M0 kk=some ⟨W.o,x⟩:=by rw[←hM0,dR,am rfl]
 have hlive:∀k,bF M0 k->k=kk:=λk hk=>by
  unfold bF at hk;rw[←hM0,dR]at hk;split at hk
  ·rename_i e;exact e.symm
  ·simp[go]at hk
 have himm:∀b,Ab b->Imm F p0 M0 w b:=λb hb=>⟨hAlt b hb,.inl hb,λh=>h,λk hk hs=>(hSlt b hs).2 hb⟩;obtain⟨m,e⟩:=K8 W.i W.ag (toL fn.params) fn.nfree hi hga;obtain⟨l1,l2,l3,l4⟩:=D7 (B:=B) (β:=p0.β) (M:=M0) himm W.ag W.as y us hargs (m6 W.i (toL fn.params)) m e;have he:=h hoks l3;rw[hM0]at he;have hsz:a0.tmps.size=fn.ntmps:=by simp[a0,x7];omega
 have hget:∀t,t<(ew W.i u us).length->a0.tmps.getD t undef=(ew W.i u us).getD t undef:=λt ht=>by simp only[a0];rw[yR,yP (by simpa using ht)];simp[bN]
 have hrel0:Rel (Imm F p0 M0 w) w W.o x S [u]:=Rel.keep (λb hb=>⟨himm b hb,rfl⟩) _ _ _ _ (λ_ _=>rfl) hr
 have hp0:Hp F p0 M0 w:=⟨λk ob hk=>by have:=hlive k (cz hk);subst this;rw[hg0]at hk;cases hk;exact hrel0,λk k' b hne hk hk'=>absurd ((hlive k hk).trans (hlive k' hk').symm) hne,
  λk b hk hs=>⟨(hSlt b hs).1,.inl ⟨by rw[hlive k hk,hkk];exact aZ _,hs⟩⟩,λb hb=>hb.elim,rfl,⟨rfl,aZ _⟩,rfl,aZ _,λb _ _=>rfl⟩
 have hst:St F p0 (kV 0 (ew W.i (Bq W.o kk) (gJ B (m6 W.i (toL fn.params)) W.as y))) M0 a0 w:=by
  refine⟨rfl,hsz,λt v ht=>?_,λb hb=>hb.elim,λb hb=>hb,λt=>?_,hp0⟩
  ·simp only[F,kr]at ht
   cases hm:iP t [W.i]with
   |true=>rw[hm]at ht;simpa using ht
   |false=>rw[hm]at ht;cases ht
  ·rw[AF];simp only[dO,eX,yO];have hil:W.i<=us.length:=aa
   have hil2:W.i<=(gJ B (m6 W.i (toL fn.params)) W.as y).length:=aa
   have hgu:∀t,(ew W.i u us).getD t undef=if t<W.i then us.getD t undef else if t=W.i then u else us.getD (t-1) undef:=λt=>by
    rw[bN,Em u W.i us hil t];split
    ·rw[bN]
    ·split
     ·rfl
     ·rw[bN]
   have hoth:∀t s,s<us.length->t<(ew W.i u us).length->(ew W.i u us).getD t undef=us.getD s undef->∀v,(gJ B (m6 W.i (toL fn.params)) W.as y)[s]? = some v->aj p0.β M0 (Imm F p0 M0 w) w v (a0.tmps.getD t undef):=λt s hs ht he v hx=>by
    have hu:us[s]? = some us[s]:=bX hs;rw[hget t ht,he];have:us.getD s undef=us[s]:=by simp[bN,hu]
    rw[this];exact l4 s v _ hx hu
   have hlen2:(gJ B (m6 W.i (toL fn.params)) W.as y).length=us.length:=aa
   rw[Em _ W.i _ hil2 t];by_cases h1:t<W.i
   ·rw[am h1]
    cases hx:(gJ B (m6 W.i (toL fn.params)) W.as y)[t]? with
    |none=>simp only[wn,aj]
    |some v=>have ht:=(gN.1 hx).1;simp only[dY];exact hoth t t aa (by rw[x7];omega) (by rw[hgu,am h1]) v hx
   rw[ai h1];by_cases h2:t=W.i
   ·subst h2;rw[am rfl,hget W.i (by rw[x7];omega),hgu,ai (uj _),am rfl];simp only[dY]
    have key:∀(o:O)(z:o.strip.den),nr o=true->go M0 kk=some ⟨o,z⟩->Rel (Imm F p0 M0 w) w o z S [u]->aj p0.β M0 (Imm F p0 M0 w) w (Bq o kk) u:=λo z ho hgo hrl=>by
     cases o with
     |pt o1=>simp only[Bq,aj,ac];refine⟨u,rfl,?_⟩;simp only[Rel]at hrl;obtain⟨bb,us1,ty',S1,r1,_⟩:=hrl;simp only[bH,aA]at r1;exact⟨_,cellsOf w bb 0 o1.size,bb,0,hgo,by simp only[gok],by simp only[get];exact⟨_,rfl⟩,by simp only[cn],by simp only[p0,r1,res],r1⟩
     |sl e=>simp only[Bq,aj,ac];exact⟨_,none,hgo,by simp only[gok],⟨_,by simp only[get];rfl⟩,by simp only[res,p0]⟩
     |fz t|p a b|mp e e'|op e=>cases ho
    exact key W.o x hro hg0 hrel0
   ·rw[ai h2]
    cases hx:(gJ B (m6 W.i (toL fn.params)) W.as y)[t-1]? with
    |none=>simp only[wn,aj]
    |some v=>have ht:=(gN.1 hx).1;simp only[dY];exact hoth t (t-1) aa (by rw[x7];omega) (by rw[hgu,ai h1,ai h2]) v hx
 refine calls_of_wp hf hb (qm (λe a' w' he=>?_) (lA hΦ hB hmix cut c F (hE.of λb hb _=>⟨⟨hb,λhs=>(hSlt b hs).2 hb⟩,rfl⟩) A _ _ _ hck (oc c hnw (sN c)) he p0 _ w hst))
 have key:∀p env M,St F p env M a' w'->Bg B (toL fn.results) W (Q x y) env M->(e=.normal\/e=.ret)->bodyPost P fn (λe w'=>∃z r rs R S',Q x y z r/\e=.returned (eR rs)/\ExtS w w' S/\(∀b,R b->w.heap.size<=b/\b<w'.heap.size)/\(∀b,S' b->(S b\/w.heap.size<=b/\b<w'.heap.size)/\¬R b)/\
   Rel (λb=>b<w'.heap.size/\(Ab b\/S b\/w.heap.size<=b)/\¬S' b/\¬R b) w' W.o z S' [u]/\
   cW (λb=>b<w'.heap.size/\(Ab b\/S b\/w.heap.size<=b)/\¬S' b/\¬R b) w' W.rt r R rs) e a' w':=by
  intro p env M hs hr hee;unfold Bg at hr;split at hr
  ·rename_i r e1 M1 hres;split at hr
   ·rename_i k hroot;split at hr
    ·rename_i ob hob;split at hr
     ·rename_i z hz;obtain⟨rs,p',R,k1,t,k4,k5,k6,k7⟩:=PR (P:=P) (a:=a') hB (toL fn.results) W.rt p env M _ e1 M1 hs.hp hs.slots hres;rw[ds]at k1
      have hrun:(results fn a'.tmps).run P w'=.ok (eR rs) w':=by
       rw[Dm,Cc];simp only[gU,Sem.run_map,k1,jn,oS]
       match rs with
       |[]|[u]=>rfl
       |u::u'::r=>simp[eR]
      have hu0:a'.tmps.getD W.i undef=u:=by have:=hs.fix W.i (a0.tmps.getD W.i undef) (by simp[F,kr,iP]);rw[this,hget W.i (by rw[x7];omega),bN,Em u W.i us aa,ai (uj _),am rfl];rfl
      have hs0:=t.s _ _ (hs.slots W.i);rw[hu0]at hs0;obtain⟨w1,w2⟩:=th hz;have hrk:=t.hp.objs k _ hob;have hbox:u=p'.β k:=A9 t.hp hob hroot (e:=[]) rfl hs0;rw[←hbox]at hrk;obtain⟨S',s1,s2⟩:=ni ob.o W.o w1 ob.x _ (p'.σ k) [u] w2 hrk;have hlk:=cz hob;have hRl:∀b,R b->w.heap.size<=b/\b<w'.heap.size:=λb hb=>⟨(t.hp.lim b (k5 b hb)).2.1.elim id (λh=>h.1.elim),(t.hp.lim b (k5 b hb)).1⟩;have hSR:∀b,p'.σ k b->¬R b:=λb hb hR=>(t.hp.lim b (k5 b hR)).2.2 k hlk hb;have hIm:∀b,Imm F p' M1 w' b->(b<w'.heap.size/\(Ab b\/S b\/w.heap.size<=b)/\¬S' b/\¬R b):=λb hb=>⟨hb.1,hb.2.1,λh=>hb.2.2.2 k hlk (s1 b h),λh=>hb.2.2.1 (k5 b h)⟩
      have hpost:∃z r rs' R S',Q x y z r/\Ending.returned (eR rs)=.returned (eR rs')/\ExtS w w' S/\(∀b,R b->w.heap.size<=b/\b<w'.heap.size)/\(∀b,S' b->(S b\/w.heap.size<=b/\b<w'.heap.size)/\¬R b)/\
        Rel (λb=>b<w'.heap.size/\(Ab b\/S b\/w.heap.size<=b)/\¬S' b/\¬R b) w' W.o z S' [u]/\
        cW (λb=>b<w'.heap.size/\(Ab b\/S b\/w.heap.size<=b)/\¬S' b/\¬R b) w' W.rt r R rs':=by
       refine⟨z,r,rs,R,S',hr,rfl,⟨t.hp.os,t.hp.tape,t.hp.output,t.hp.size,λb hb hn=>t.hp.old b hb hn⟩,hRl,λb hb=>⟨?_,hSR b (s1 b hb)⟩,s2 _ hIm (λb hb hnb=>?_),cW.keep hIm _ _ _ _ k7⟩
       ·have:=t.hp.own k b hlk (s1 b hb);rcases this.2 with⟨_,h1⟩|h1
        ·exact .inl h1
        ·exact h1.elim (λh1=>.inr ⟨h1,this.1⟩) (λh1=>h1.1.elim)
       ·have:=t.hp.own k b hlk hb;refine⟨this.1,?_,hnb,hSR b hb⟩;rcases this.2 with⟨_,h1⟩|h1
        ·exact .inr (.inl h1)
        ·exact h1.elim (λh1=>.inr (.inr h1)) (λh1=>h1.1.elim)
      rcases hee with rfl|rfl
      ·exact⟨hs.defers,_,hrun,hpost⟩
      ·exact⟨hs.defers,_,hrun,hpost⟩
     ·exact hr.elim
    ·exact hr.elim
   ·exact hr.elim
  ·exact hr.elim
 cases e with
 |normal=>obtain⟨p,env,M,h1,h2⟩:=he;exact key p env M h1 h2 (.inl rfl)
 |ret=>obtain⟨p,env,M,h1,h2⟩:=he;exact key p env M h1 h2 (.inr rfl)
 |exit id|goto l=>obtain⟨p,env,M,h1,h2⟩:=he;exact h2.elim
 |panic ch|outgrown=>exact he.elim
theorem TZ (hΦ : gK P Φ) (hB : TabOk P B) (hmix : P.follows .mixedOrders = true)    (hf : P.funcs[f]? = some fn) (hb : fn.body = some c) (hn : (fn.name == "runtime.NumGoroutine") = false) (W : Wt) (A : Ann) (cut : Nat -> Nat)
  (hro:nr W.o=true) (hi:W.i<=W.ag.length) (hga:ew W.i false W.ag=agL B fn) (hck:okC fn.ntmps cut c=true) (hlen:W.ag.length+1<=fn.ntmps) (hnw:noW [W.i] c=true)
  (h:∀x y,ab (W.o.strip.oks x)->ab (okL W.as y)->ab (W.pre x y)->kP B Φ cut fn c A W x y (λz r=>z=W.new x y/\r=W.res x y)):aN P f (iO W):=by
 refine⟨sS hf hb hn,λAb w u x us y S hE hAlt hSlt hr hargs hpre cs=>?_⟩;obtain⟨e,w',fr,⟨z,r,rs,R,S',hq,h1⟩,h2⟩ :=wt_q hΦ hB hmix hf hb hn W (λx y=>ab (W.pre x y)) (λx y z r=>z=W.new x y/\r=W.res x y) A cut hro hi hga hck hlen hnw h Ab w u x us y S hE hAlt hSlt hr hargs hpre cs;obtain⟨rfl,rfl⟩:=hq;exact⟨e,w',fr,⟨rs,R,S',h1⟩,h2⟩
@[reducible] def BQ:List O->Type
 |[]=>Unit
 |o::r=>o.strip.den×BQ r
structure Wz where
 fl:Bool
 os:List O
 as:List T
 key:List V->List Nat
 pat:List Nat->List V
 pre:BQ os->bo as->List Prop
 new:BQ os->bo as->BQ os
 res:BQ os->bo as->Bool
structure UpdX (F:Fr) (p:Ow) (M:Mem) (w w':aK) (T S':aT) (L:bK) (σ':y9) (M0 M1:Mem) (e:cg):Prop where
 keys:∀k,k∈L->∃ob ob',go M k=some ob/\go M1 k=some ob'/\Rel (λb=>b<w'.heap.size/\(Imm F p M w b\/T b\/w.heap.size<=b)/\∀i,i∈L->¬σ' i b) w' ob'.o ob'.x (σ' k) [p.β k]
 sub:∀k,k∈L->∀c,σ' k c->(p.σ k c/\¬T c)\/S' c
 dis:∀k k',k∈L->k'∈L->k≠k'->∀c,σ' k c->¬σ' k' c
 rest:∀k,k∉L->go M1 k=go M0 k
 ref:∀k π,(V.ref k π).evs e=if k∈L then (if kT π=true then .ref k π else .any)else .ref k π
 ad:∀k,k∉L->∀π,(V.ad k π).evs e=.ad k π
 adk:∀k,k∈L->∀π,(V.ad k π).evs e=.any\/((V.ad k π).evs e=.ad k π/\∃ob ob' n,go M k=some ob/\go M1 k=some ob'/\gH π ob.o=some n/\gH π ob'.o=some n)
def z0:Nat:=999900
def waCt(W:Wa):Ct:=⟨[],[],λ_=>[],[],λ_=>(),false,some (.a W)⟩
def alV(k:Nat):(t:T)->t.den->V
 |.pt t,x=>bif tI t then .bx (.ad k [.de])else .d (.pt t) x
 |.p a b,x=>.p (alV k a x.1) (alV k b x.2)
 |.fn f t,x=>.fn f (alV k t x)
 |.u,_=>.u
 |t,x=>.d t x
def alA(k:Nat):(ts:eT)->bo ts->List V
 |[],_=>[]
 |t::ts,x=>alV k t x.1::alA k ts x.2
def K6(rs:List ResultVar)(W:Wa)(K:W.o.strip.den->Prop)(env:Env)(M:Mem):Prop:=
 match rs with
 |[]=>(match Bv W.way (gt env 0)with
  |some k=>(match go M k with
   |some ob=>(match wkO ob W.o with
    |some z=>K z
    |none=>False)
   |none=>False)
  |none=>False)
 |_=>False
def endA(rs:List ResultVar)(W:Wa)(K:W.o.strip.den->Prop):Ex->Env->Mem->Prop
 |.ex _,_,_|.go _,_,_=>False
 |.nm,env,M|.rt,env,M=>K6 rs W K env M
def evFa(B:Tab)(Φ:dM)(cut:nK)(fn:Func)(c:Code)(A:Ann)(W:Wa)(x:W.o.strip.den)(y:bo W.as)(K:W.o.strip.den->Prop):Prop:=ev B Φ cut c A (endA (toL fn.results) W K) (kV 0 (.ad (cid 9000 0) W.way::alA (cid 9000 0) W.as y)) [(cid 9000 0,⟨W.o,x⟩)]
theorem aaa{t:T}(h:tI t=true):t=.any:=by
 unfold tI at h;split at h
 ·rfl
 ·cases h
theorem Ek{A Im:aT}{β:gM}{M:Mem}{k:Nat}{u:bm}(hA:∀b,A b->Im b)(hbox:ac β M Im w (.ad k [.de]) [u]):(t:T)->(x:t.den)->(vs:aJ)->ah A w t x vs->AlR w u t vs->ac β M Im w (alV k t x) vs
 |.pt t,x,vs,r,h=>by
  simp only[alV]
  cases ha:tI t with
  |false=>simp only[bp,ac];exact ah.keep (λb hb=>⟨hA b hb,rfl⟩) _ _ _ r
  |true=>have:=aaa ha;subst this;simp only[aD];simp only[ah]at r;simp only[AlR]at h;obtain⟨b,o,us,rfl,hb,_⟩:=r;obtain⟨b',o',e,hc⟩:=h ha;simp only[bH,Gj,aG,Addr.mk.injEq,aA]at e;obtain⟨rfl,rfl⟩:=e;rw[ac];exact⟨b,o,[u],rfl,hA b hb,hc,hbox⟩
 |.p a b,x,vs,r,h=>by simp only[ah]at r;simp only[AlR]at h;simp only[alV,ac];obtain⟨va,vb,rfl,r1,r2⟩:=r;obtain⟨va',vb',e,hl,h1,h2⟩:=h;obtain⟨rfl,rfl⟩:=List.append_inj e (by rw[ah.len _ _ _ r1,hl]);exact⟨_,_,rfl,Ek hA hbox a _ _ r1 h1,Ek hA hbox b _ _ r2 h2⟩
 |.fn f t,x,vs,r,h=>by
  simp only[ah]at r;simp only[AlR]at h;simp only[alV,ac];obtain⟨us,rfl,r1⟩:=r;obtain⟨us',e,h1⟩:=h;simp only[bH,Value.func.injEq,aA,aL]at e;have e:us=us':=by simpa using e
  subst e;exact⟨us,rfl,Ek hA hbox t _ _ r1 h1⟩
 |.u,x,vs,r,h=>by simp only[ah]at r;simp only[alV,ac];exact r
 |.int _,x,vs,r,h|.bool,x,vs,r,h|.str,x,vs,r,h|.any,x,vs,r,h|.sl _,x,vs,r,h|.ifc _ _,x,vs,r,h|.ib _ _,x,vs,r,h|.mp _ _,x,vs,r,h|.op _,x,vs,r,h|.ns _,x,vs,r,h|.er _,x,vs,r,h=>by simp only[alV,ac];exact ah.keep (λb hb=>⟨hA b hb,rfl⟩) _ _ _ r
theorem RJ{A Im:aT}{β:gM}{M:Mem}{k:Nat}{u0:bm}(hA:∀b,A b->Im b)(hbox:ac β M Im w (.ad k [.de]) [u0]):(ts:eT)->(x:bo ts)->(us:aJ)->dL A w (ou ts) ts x us->AlL w u0 ts us->
  us.length=ts.length/\(alA k ts x).length=ts.length/\ab (okL ts x)/\∀(i:Nat)(v:V)(u:bm),(alA k ts x)[i]? = some v->us[i]? = some u->aj β M Im w v u
 |[],x,us,h,_=>by simp only[ou,dL]at h;subst h;exact⟨rfl,rfl,trivial,λi v u hv=>by simp[alA]at hv⟩
 |t::ts,x,us,h,hl=>by
  simp only[ou,dL]at h;obtain⟨u,us',vs,rfl,_,h2,h3,h4⟩:=h;have:=h2 trivial;subst this;simp only[AlL]at hl;obtain⟨i1,i2,i3,i4⟩:=RJ (β:=β) (M:=M) hA hbox ts x.2 us' h4 hl.2;refine⟨by simp[i1],by simp[alA,i2],by simp only[okL,fW];exact⟨kA _ _ (ah.ok _ _ _ h3),i3⟩,λi v u' hv hu=>?_⟩
  cases i with
  |zero=>simp only[alA,jG,aG]at hv hu;subst hv;subst hu;exact ky (Ek hA hbox t x.1 _ h3 hl.1)
  |succ i=>exact i4 i v u' (by simpa[alA]using hv) (by simpa using hu)
theorem Av:(π:bA)->(o:O)->lrP π=true->(vs us:aJ)->(ad pl:Pl)->res w π o vs ad=some (us,pl)->∀b n,ad=some (b,n)->∃m,pl=some (b,m)
 |[],o,_,vs,us,ad,pl,h,b,n,e=>by simp only[res,aG,bS]at h;obtain⟨_,rfl⟩:=h;exact⟨n,e⟩
 |.ix _::_,_,h,_,_,_,_,_,_,_,_|.de::_,_,h,_,_,_,_,_,_,_,_=>by simp[lrP]at h
 |.l::π,o,hl,vs,us,ad,pl,h,b,n,e=>by
  simp only[lrP]at hl
  cases o with
  |p a c=>simp only[res]at h;exact Av π a hl _ _ _ _ h b n e
  |fz t=>
   cases t with
   |p a c=>simp only[res]at h;exact Av π (.fz a) hl _ _ _ _ h b n e
   |_=>simp[res]at h
  |_=>simp[res]at h
 |.r::π,o,hl,vs,us,ad,pl,h,b,n,e=>by
  simp only[lrP]at hl
  cases o with
  |p a c=>simp only[res]at h;exact Av π c hl _ _ _ _ h b (n+a.size) (by rw[e];rfl)
  |fz t=>
   cases t with
   |p a c=>simp only[res]at h;exact Av π (.fz c) hl _ _ _ _ h b (n+a.size) (by rw[e];rfl)
   |_=>simp[res]at h
  |_=>simp[res]at h
theorem SA{o:O}(hw:ro o π=true)(h:Adr β M w k π v)(hg:go M k=some ob){S:aT}(hr:Rel Im w ob.o ob.x S [β k]):
  ∃b n,β k=.pointer (some ⟨b,0,none⟩)/\v=.pointer (some ⟨b,n,none⟩):=by
 obtain⟨ob',us,b,off,k1,k2,k3,k4,k5,k6⟩:=h;rw[hg]at k1;cases k1
 match π,hw with
 |.de::π,hw=>
  have hl:lrP π=true:=by
   cases o with
   |pt o1=>exact hw
   |_=>simp[ro]at hw
  obtain⟨oo,xx⟩:=ob
  cases oo with
  |pt o1=>simp only[Rel]at hr;obtain⟨bb,us1,ty',S1,r1,_⟩:=hr;simp only[bH,aA]at r1;rw[r1]at k5;simp only[res]at k5;obtain⟨m,hm⟩:=Av π o1 hl _ _ _ _ k5 bb 0 rfl;simp only[aG,bS]at hm;obtain⟨rfl,rfl⟩:=hm;exact⟨b,off,r1,k6⟩
  |fz t=>cases t<;>simp[res]at k5
  |_=>simp[res]at k5
theorem agx (hΦ : gK P Φ) (hB : TabOk P B) (hmix : P.follows .mixedOrders = true)    (hf : P.funcs[f]? = some fn) (hb : fn.body = some c) (hn : (fn.name == "runtime.NumGoroutine") = false) (W : Wa) (A : Ann) (cut : Nat -> Nat)
  (hwy:ro W.o W.way=true) (hck:okC fn.ntmps cut c=true) (hlen:W.as.length+1<=fn.ntmps) (hnw:noW [0] c=true)
  (h:∀x y,ab (W.o.strip.oks x)->ab (okL W.as y)->ab (W.pre x y)->evFa B Φ cut fn c A W x y (λz=>z=W.new x y)):aN P f (waCt W):=by
 refine⟨sS hf hb hn,?_⟩;show L5 P f W;intro Ab w u v x us y S hE hAlt hSlt hr hadr hargs hal hpre;let a0:Act:={ tmps:=(v::us).toArray++Array.replicate (fn.ntmps-(v::us).toArray.size) undef,defers:=[] }
 have hoks:ab (W.o.strip.oks x):=by have h1:=Rel.frz (Im':=λ_=>True) (λ_ _=>trivial) W.o x S [u] (λ_ _=>trivial) hr;have h2:=kA _ _ (ah.ok _ _ _ h1);exact h2
 let F:Fr:=⟨w,w,Ab,S,λ_=>False,fn.ntmps,kr (λ_=>none) [0] a0,False⟩
 let p0:Ow:=⟨λ_=>u,λ_=>S,λ_=>False⟩
 have hkk:gid=cid 9000 0:=bz
 replace h:=λh1 h2=>h x y h1 h2 hpre;unfold evFa at h;generalize cid 9000 0=kk at hkk h;generalize hM0:([(kk,⟨W.o,x⟩)]:Mem)=M0;have hg0:go M0 kk=some ⟨W.o,x⟩:=by rw[←hM0,dR,am rfl]
 have hlive:∀k,bF M0 k->k=kk:=λk hk=>by
  unfold bF at hk;rw[←hM0,dR]at hk;split at hk
  ·rename_i e;exact e.symm
  ·simp[go]at hk
 have himm:∀b,Ab b->Imm F p0 M0 w b:=λb hb=>⟨hAlt b hb,.inl hb,λh=>h,λk hk hs=>(hSlt b hs).2 hb⟩;have hrel0:Rel (Imm F p0 M0 w) w W.o x S [u]:=Rel.keep (λb hb=>⟨himm b hb,rfl⟩) _ _ _ _ (λ_ _=>rfl) hr;have hadr0:Adr p0.β M0 w kk W.way v:=by obtain⟨o0,us0,b0,off0,k1,k2,k3,k4,k5,k6⟩:=hadr;rw[dR,am rfl]at k1;cases k1;exact⟨_,us0,b0,off0,hg0,k2,k3,k4,k5,k6⟩
 have hbox:ac p0.β M0 (Imm F p0 M0 w) w (.ad kk [.de]) [u]:=by
  have key:∀(o:O)(z:o.strip.den),ro o W.way=true->go M0 kk=some ⟨o,z⟩->Rel (Imm F p0 M0 w) w o z S [u]->ac p0.β M0 (Imm F p0 M0 w) w (.ad kk [.de]) [u]:=λo z ho hgo hrl=>by
   cases o with
   |pt o1=>simp only[ac];refine⟨u,rfl,?_⟩;simp only[Rel]at hrl;obtain⟨bb,us1,ty',S1,r1,_⟩:=hrl;simp only[bH,aA]at r1;exact⟨_,cellsOf w bb 0 o1.size,bb,0,hgo,by simp only[gok],by simp only[get];exact⟨_,rfl⟩,by simp only[cn],by simp only[p0,r1,res],r1⟩
   |_=>exfalso;revert ho;cases W.way with
    |nil=>simp[ro]
    |cons s π=>cases s<;>simp[ro]
  exact key W.o x hwy hg0 hrel0
 obtain⟨l1,l2,l3,l4⟩:=RJ (β:=p0.β) (M:=M0) himm hbox W.as y us hargs hal;have he:=h hoks l3;rw[hM0]at he;have hsz:a0.tmps.size=fn.ntmps:=by simp[a0];omega
 have hget:∀t,t<(v::us).length->a0.tmps.getD t undef=(v::us).getD t undef:=λt ht=>by simp only[a0];rw[yR,yP (by simpa using ht)];simp[bN]
 have hp0:Hp F p0 M0 w:=⟨λk ob hk=>by have:=hlive k (cz hk);subst this;rw[hg0]at hk;cases hk;exact hrel0,λk k' b hne hk hk'=>absurd ((hlive k hk).trans (hlive k' hk').symm) hne,
  λk b hk hs=>⟨(hSlt b hs).1,.inl ⟨by rw[hlive k hk,hkk];exact aZ _,hs⟩⟩,λb hb=>hb.elim,rfl,⟨rfl,aZ _⟩,rfl,aZ _,λb _ _=>rfl⟩
 have hst:St F p0 (kV 0 (.ad kk W.way::alA kk W.as y)) M0 a0 w:=by
  refine⟨rfl,hsz,λt v ht=>?_,λb hb=>hb.elim,λb hb=>hb,λt=>?_,hp0⟩
  ·simp only[F,kr]at ht
   cases hm:iP t [0]with
   |true=>rw[hm]at ht;simpa using ht
   |false=>rw[hm]at ht;cases ht
  ·rw[AF];simp only[dO,eX,yO]
   cases t with
   |zero=>rw[hget 0 ak];simp only[jG,dY,wd,aj,ac];exact⟨v,rfl,hadr0⟩
   |succ t=>
    simp only[oR]
    cases hx:(alA kk W.as y)[t]? with
    |none=>simp only[wn,aj]
    |some z=>
     have ht:=(gN.1 hx).1;have hu:us[t]? = some us[t]:=bX aa;simp only[dY];rw[hget (t+1) (by simp;omega)];have:(v::us).getD (t+1) undef=us[t]:=by simp[bN,hu]
     rw[this];exact l4 t z _ hx hu
 obtain⟨bu,nu,hu1,hv1⟩:=SA hwy hadr0 hg0 hrel0;refine calls_of_wp hf hb (qm (λe a' w' he=>?_) (lA hΦ hB hmix cut c F (hE.of λb hb _=>⟨⟨hb,λhs=>(hSlt b hs).2 hb⟩,rfl⟩) A _ _ _ hck (oc c hnw (sN c)) he p0 _ w hst))
 have key:∀p env M,St F p env M a' w'->K6 (toL fn.results) W (λz=>z=W.new x y) env M->(e=.normal\/e=.ret)->bodyPost P fn (λe w'=>∃S',e=.returned (eR [])/\ExtS w w' S/\(∀b,S' b->S b\/w.heap.size<=b/\b<w'.heap.size)/\
   Rel (λb=>b<w'.heap.size/\(Ab b\/S b\/w.heap.size<=b)/\¬S' b) w' W.o (W.new x y) S' [u]) e a' w':=by
  intro p env M hs hr hee;unfold K6 at hr;split at hr
  ·rename_i hres;split at hr
   ·rename_i k hroot;split at hr
    ·rename_i ob hob;split at hr
     ·rename_i z hz;subst hr;have hrun:(results fn a'.tmps).run P w'=.ok (eR []) w':=by rw[Dm,Cc];rw[ds]at hres;rw[hres];simp[eR]
      have hv0:a'.tmps.getD 0 undef=v:=by have:=hs.fix 0 (a0.tmps.getD 0 undef) (by simp[F,kr,iP]);rw[this,hget 0 ak];rfl
      have hs0:=hs.slots 0;rw[hv0,SB hroot]at hs0;simp only[aj,ac]at hs0;obtain⟨v',e1,hadr'⟩:=hs0;simp only[bH,aA]at e1;subst e1;obtain⟨w1,w2⟩:=th hz;have hrk:=hs.hp.objs k _ hob;obtain⟨bu',nu',hu2,hv2⟩:=SA hwy hadr' hob hrk;rw[hv1]at hv2;simp only[Gj,aG,Addr.mk.injEq,aA]at hv2;have hbx:u=p.β k:=by have:p0.β kk=u:=rfl;rw[←this,hu1,hu2,hv2.1]
      rw[←hbx]at hrk;obtain⟨S',s1,s2⟩:=ni ob.o W.o w1 ob.x _ (p.σ k) [u] w2 hrk;have hlk:=cz hob;have hIm:∀b,Imm F p M w' b->(b<w'.heap.size/\(Ab b\/S b\/w.heap.size<=b)/\¬S' b):=λb hb=>⟨hb.1,hb.2.1,λh=>hb.2.2.2 k hlk (s1 b h)⟩
      have hpost:∃S',Ending.returned (eR [])=.returned (eR [])/\ExtS w w' S/\(∀b,S' b->S b\/w.heap.size<=b/\b<w'.heap.size)/\
        Rel (λb=>b<w'.heap.size/\(Ab b\/S b\/w.heap.size<=b)/\¬S' b) w' W.o (W.new x y) S' [u]:=by
       refine⟨S',rfl,⟨hs.hp.os,hs.hp.tape,hs.hp.output,hs.hp.size,λb hb hn=>hs.hp.old b hb hn⟩,λb hb=>?_,s2 _ hIm (λb hb hnb=>?_)⟩
       ·have:=hs.hp.own k b hlk (s1 b hb);rcases this.2 with⟨_,h1⟩|h1
        ·exact .inl h1
        ·exact h1.elim (λh1=>.inr ⟨h1,this.1⟩) (λh1=>h1.1.elim)
       ·have:=hs.hp.own k b hlk hb;refine⟨this.1,?_,hnb⟩;rcases this.2 with⟨_,h1⟩|h1
        ·exact .inr (.inl h1)
        ·exact h1.elim (λh1=>.inr (.inr h1)) (λh1=>h1.1.elim)
      rcases hee with rfl|rfl
      ·exact⟨hs.defers,_,hrun,hpost⟩
      ·exact⟨hs.defers,_,hrun,hpost⟩
     ·exact hr.elim
    ·exact hr.elim
   ·exact hr.elim
  ·exact hr.elim
 cases e with
 |normal=>obtain⟨p,env,M,h1,h2⟩:=he;exact key p env M h1 h2 (.inl rfl)
 |ret=>obtain⟨p,env,M,h1,h2⟩:=he;exact key p env M h1 h2 (.inr rfl)
 |exit id|goto l=>obtain⟨p,env,M,h1,h2⟩:=he;exact h2.elim
 |panic ch|outgrown=>exact he.elim
def LE(W:Wc):Ct:=⟨[],[],λ_=>[],[],λ_=>(),false,some (.c W)⟩
def anV(k:Nat):(t:T)->t.den->V
 |.any,_=>.ad k [.de]
 |.p a b,x=>.p (anV k a x.1) (anV k b x.2)
 |.fn f t,x=>.fn f (anV k t x)
 |t,x=>fm t x
def anA(k:Nat):List Bool->(ts:eT)->bo ts->List V
 |true::gs,t::ts,x=>.ag (fm t x.1)::anA k gs ts x.2
 |false::gs,t::ts,x=>anV k t x.1::anA k gs ts x.2
 |_,_,_=>[]
def oZ(M:Mem):T->V->Option Nat
 |.any,.ad k π=>bif kM π then some k else none
 |.p a b,.p v w=>bif fX M v a.size then (match oZ M a v with|some k=>some k|none=>oZ M b w)else none
 |.fn _ t,.fn _ v=>oZ M t v
 |_,_=>none
def K3(rs:List ResultVar)(W:Wc)(K:W.o.strip.den->Prop)(env:Env)(M:Mem):Prop:=
 match rs with
 |[]=>(match oZ M (kJ .u W.as W.i) (gt env W.i)with
  |some k=>(match go M k with
   |some ob=>(match wkO ob W.o with
    |some z=>K z
    |none=>False)
   |none=>False)
  |none=>False)
 |_=>False
def endC(rs:List ResultVar)(W:Wc)(K:W.o.strip.den->Prop):Ex->Env->Mem->Prop
 |.ex _,_,_|.go _,_,_=>False
 |.nm,env,M|.rt,env,M=>K3 rs W K env M
def evFc(B:Tab)(Φ:dM)(cut:nK)(fn:Func)(c:Code)(A:Ann)(W:Wc)(x:W.o.strip.den)(y:bo W.as)(K:W.o.strip.den->Prop):Prop:=ev B Φ cut c A (endC (toL fn.results) W K) (kV 0 (anA (cid 9000 0) W.ag W.as y)) [(cid 9000 0,⟨W.o,x⟩)]
def ptO:O->Bool
 |.pt _=>true
 |_=>false
theorem AnF.rel{A:aT}{u:bm}(hu:u.oneCell'=true):(t:T)->(x:t.den)->(vs:aJ)->AnF A w u t x vs->ah A w t x vs
 |.any,_,vs,h=>by simp only[AnF]at h;simp only[ah];exact⟨u,h,hu⟩
 |.p a b,x,vs,h=>by simp only[AnF]at h;obtain⟨va,vb,h1,h2,h3⟩:=h;simp only[ah];exact⟨va,vb,h1,AnF.rel hu a _ _ h2,AnF.rel hu b _ _ h3⟩
 |.fn f t,x,vs,h=>by simp only[AnF]at h;obtain⟨us,h1,h2⟩:=h;simp only[ah];exact⟨us,h1,AnF.rel hu t _ _ h2⟩
 |.int _,_,_,h|.bool,_,_,h|.str,_,_,h|.u,_,_,h|.sl _,_,_,h|.pt _,_,_,h|.ifc _ _,_,_,h|.ib _ _,_,_,h|.mp _ _,_,_,h|.op _,_,_,h|.ns _,_,_,h|.er _,_,_,h=>by simpa only [AnF]using h
theorem En{A Im:aT}{β:gM}{M:Mem}{k:Nat}{u:bm}(hA:∀b,A b->Im b)(hbox:ac β M Im w (.ad k [.de]) [u]):(t:T)->(x:t.den)->(vs:aJ)->AnF A w u t x vs->ac β M Im w (anV k t x) vs
 |.any,_,vs,h=>by simp only[AnF]at h;subst h;exact hbox
 |.p a b,x,vs,h=>by simp only[AnF]at h;obtain⟨va,vb,h1,h2,h3⟩:=h;simp only[anV,ac];exact⟨va,vb,h1,En hA hbox a _ _ h2,En hA hbox b _ _ h3⟩
 |.fn f t,x,vs,h=>by simp only[AnF]at h;obtain⟨us,h1,h2⟩:=h;simp only[anV,ac];exact⟨us,h1,En hA hbox t _ _ h2⟩
 |.int k,x,vs,h=>by simp only[AnF]at h;exact fG (.int k) x vs (ah.keep (λb hb=>⟨hA b hb,rfl⟩) _ _ _ h)
 |.bool,x,vs,h=>by simp only[AnF]at h;exact fG .bool x vs (ah.keep (λb hb=>⟨hA b hb,rfl⟩) _ _ _ h)
 |.str,x,vs,h=>by simp only[AnF]at h;exact fG .str x vs (ah.keep (λb hb=>⟨hA b hb,rfl⟩) _ _ _ h)
 |.u,x,vs,h=>by simp only[AnF]at h;exact fG .u x vs (ah.keep (λb hb=>⟨hA b hb,rfl⟩) _ _ _ h)
 |.sl t,x,vs,h=>by simp only[AnF]at h;exact fG (.sl t) x vs (ah.keep (λb hb=>⟨hA b hb,rfl⟩) _ _ _ h)
 |.pt t,x,vs,h=>by simp only[AnF]at h;exact fG (.pt t) x vs (ah.keep (λb hb=>⟨hA b hb,rfl⟩) _ _ _ h)
 |.ifc f t,x,vs,h=>by simp only[AnF]at h;exact fG (.ifc f t) x vs (ah.keep (λb hb=>⟨hA b hb,rfl⟩) _ _ _ h)
 |.ib f t,x,vs,h=>by simp only[AnF]at h;exact fG (.ib f t) x vs (ah.keep (λb hb=>⟨hA b hb,rfl⟩) _ _ _ h)
 |.mp k t,x,vs,h=>by simp only[AnF]at h;exact fG (.mp k t) x vs (ah.keep (λb hb=>⟨hA b hb,rfl⟩) _ _ _ h)
 |.op t,x,vs,h=>by simp only[AnF]at h;exact fG (.op t) x vs (ah.keep (λb hb=>⟨hA b hb,rfl⟩) _ _ _ h)
 |.ns t,x,vs,h=>by simp only[AnF]at h;exact fG (.ns t) x vs (ah.keep (λb hb=>⟨hA b hb,rfl⟩) _ _ _ h)
 |.er i,x,vs,h=>by simp only[AnF]at h;exact fG (.er i) x vs (ah.keep (λb hb=>⟨hA b hb,rfl⟩) _ _ _ h)
theorem Ka{A Im:aT}{β:gM}{M:Mem}{k:Nat}{u0:bm}(hu0:u0.oneCell'=true)(hA:∀b,A b->Im b)(hbox:ac β M Im w (.ad k [.de]) [u0]):(gs:fw)->(ts:eT)->(x:bo ts)->(us:aJ)->jd A w u0 gs ts x us->
  us.length=gs.length/\(anA k gs ts x).length=gs.length/\ab (okL ts x)/\∀(i:Nat)(v:V)(u:bm),(anA k gs ts x)[i]? = some v->us[i]? = some u->aj β M Im w v u
 |[],[],x,us,h=>by simp only[jd]at h;subst h;exact⟨rfl,rfl,trivial,λi v u hv=>by simp[anA]at hv⟩
 |[],_::_,x,us,h=>by simp[jd]at h
 |g::_,[],x,us,h=>by cases g<;>simp[jd]at h
 |true::gs,t::ts,x,us,h=>by
  simp only[jd]at h;obtain⟨us',vs,rfl,h3,h4⟩:=h;obtain⟨i1,i2,i3,i4⟩:=Ka (β:=β) (M:=M) hu0 hA hbox gs ts x.2 us' h4;refine⟨by simp[i1],by simp[anA,i2],by simp only[okL,fW];exact⟨kA _ _ (ah.ok _ _ _ h3),i3⟩,λi v u' hv hu=>?_⟩
  cases i with
  |zero=>simp only[anA,jG,aG]at hv hu;subst hv;subst hu;simp only[aj];exact⟨vs,rfl,fG t x.1 vs (ah.keep (λb hb=>⟨hA b hb,rfl⟩) _ _ _ h3)⟩
  |succ i=>exact i4 i v u' (by simpa[anA]using hv) (by simpa using hu)
 |false::gs,t::ts,x,us,h=>by
  simp only[jd]at h;obtain⟨u,us',rfl,h3,h4⟩:=h;obtain⟨i1,i2,i3,i4⟩:=Ka (β:=β) (M:=M) hu0 hA hbox gs ts x.2 us' h4;refine⟨by simp[i1],by simp[anA,i2],by simp only[okL,fW];exact⟨kA _ _ (ah.ok _ _ _ (AnF.rel hu0 t _ _ h3)),i3⟩,λi v u' hv hu=>?_⟩
  cases i with
  |zero=>simp only[anA,jG,aG]at hv hu;subst hv;subst hu;exact ky (En hA hbox t x.1 _ h3)
  |succ i=>exact i4 i v u' (by simpa[anA]using hv) (by simpa using hu)
theorem DD(hp:Hp F p M w){A:aT}{w0:aK}{u:bm}(hu:u.oneCell'=true){k:Nat}{ob:Ob}(hg:go M k=some ob):(t:T)->(v:V)->(x:t.den)->(vs:aJ)->ac p.β M (Imm F p M w) w v vs->AnF A w0 u t x vs->oZ M t v=some k->u=p.β k
 |.any,.ad j π,x,vs,r,h,hb=>by
  simp only[oZ]at hb
  cases hd:kM π with
  |false=>rw[hd]at hb;cases hb
  |true=>rw[hd]at hb;simp only[aD,aG]at hb;subst hb;have:=x9 hd;subst this;simp only[AnF]at h;subst h;exact A9 hp hg (v0:=.ad j [.de]) (by simp[pK,kM]) (e:=[]) rfl (u:=u) (by simp only[V.evs,aj];exact r)
 |.p a b,.p v v',x,vs,r,h,hb=>by
  simp only[oZ]at hb
  cases hs:fX M v a.size with
  |false=>rw[hs]at hb;cases hb
  |true=>
   rw[hs]at hb;simp only[aD]at hb;simp only[ac]at r;obtain⟨va,vb,rfl,r1,r2⟩:=r;simp only[AnF]at h;obtain⟨va',vb',e,h1,h2⟩:=h;obtain⟨rfl,rfl⟩:=List.append_inj e (by rw[ng hp v va _ r1 (lW hs),ah.len _ _ _ (AnF.rel hu a _ _ h1)]);split at hb
   ·rename_i k' hk;cases hb;exact DD hp hu hg a v _ _ r1 h1 hk
   ·exact DD hp hu hg b v' _ _ r2 h2 hb
 |.fn f t,.fn f' v,x,vs,r,h,hb=>by
  simp only[oZ]at hb;simp only[ac]at r;simp only[AnF]at h;obtain⟨us,rfl,r1⟩:=r;obtain⟨us',e,h1⟩:=h;simp only[bH,Value.func.injEq,Fn.func.injEq,aA,aL]at e;have e:us=us':=by simpa using e.2
  subst e;exact DD hp hu hg t v _ _ r1 h1 hb
 |.any,.p _ _,_,_,_,_,hb|.any,.ref _ _,_,_,_,_,hb|.any,.d _ _,_,_,_,_,hb|.any,.nl,_,_,_,_,hb|.any,.np,_,_,_,_,hb|.any,.u,_,_,_,_,hb|.any,.any,_,_,_,_,hb|.any,.ag _,_,_,_,_,hb|.any,.tup _,_,_,_,_,hb|.any,.fn _ _,_,_,_,_,hb|.any,.bx _,_,_,_,_,hb|.any,.ifc _ _,_,_,_,_,hb|.any,.gd _ _ _ _,_,_,_,_,hb|.p _ _,.ad _ _,_,_,_,_,hb|.p _ _,.ref _ _,_,_,_,_,hb|.p _ _,.d _ _,_,_,_,_,hb|.p _ _,.nl,_,_,_,_,hb|.p _ _,.np,_,_,_,_,hb|.p _ _,.u,_,_,_,_,hb|.p _ _,.any,_,_,_,_,hb|.p _ _,.ag _,_,_,_,_,hb|.p _ _,.tup _,_,_,_,_,hb|.p _ _,.fn _ _,_,_,_,_,hb|.p _ _,.bx _,_,_,_,_,hb|.p _ _,.ifc _ _,_,_,_,_,hb|.p _ _,.gd _ _ _ _,_,_,_,_,hb|.fn _ _,.ad _ _,_,_,_,_,hb|.fn _ _,.ref _ _,_,_,_,_,hb|.fn _ _,.d _ _,_,_,_,_,hb|.fn _ _,.nl,_,_,_,_,hb|.fn _ _,.np,_,_,_,_,hb|.fn _ _,.u,_,_,_,_,hb|.fn _ _,.any,_,_,_,_,hb|.fn _ _,.ag _,_,_,_,_,hb|.fn _ _,.tup _,_,_,_,_,hb|.fn _ _,.p _ _,_,_,_,_,hb|.fn _ _,.bx _,_,_,_,_,hb|.fn _ _,.ifc _ _,_,_,_,_,hb|.fn _ _,.gd _ _ _ _,_,_,_,_,hb|.int _,_,_,_,_,_,hb|.bool,_,_,_,_,_,hb|.str,_,_,_,_,_,hb|.u,_,_,_,_,_,hb|.sl _,_,_,_,_,_,hb|.pt _,_,_,_,_,_,hb|.ifc _ _,_,_,_,_,_,hb|.mp _ _,_,_,_,_,_,hb|.op _,_,_,_,_,_,hb|.ns _,_,_,_,_,_,hb|.er _,_,_,_,_,_,hb=>by simp[oZ]at hb
theorem Jv{A:aT}{u0:bm}:(gs:fw)->(ts:eT)->(x:bo ts)->(us:aJ)->(i:Nat)->jd A w u0 gs ts x us->kJ true gs i=false->∃(z:(kJ T.u ts i).den) (u:bm),us[i]? = some u/\AnF A w u0 (kJ T.u ts i) z [u]
 |[],_,_,_,_,_,h=>by simp[kJ]at h
 |g::_,[],x,us,i,h,_=>by cases g<;>simp[jd]at h
 |true::gs,t::ts,x,us,0,h,hn=>by simp[kJ]at hn
 |false::gs,t::ts,x,us,0,h,hn=>by simp only[jd]at h;obtain⟨u,us',rfl,h3,h4⟩:=h;exact⟨x.1,u,rfl,h3⟩
 |true::gs,t::ts,x,us,i+1,h,hn=>by simp only[jd]at h;obtain⟨us',vs,rfl,h3,h4⟩:=h;obtain⟨z,u,e1,e2⟩:=Jv gs ts x.2 us' i h4 (by simpa[kJ]using hn);exact⟨z,u,by simpa using e1,e2⟩
 |false::gs,t::ts,x,us,i+1,h,hn=>by simp only[jd]at h;obtain⟨u,us',rfl,h3,h4⟩:=h;obtain⟨z,u,e1,e2⟩:=Jv gs ts x.2 us' i h4 (by simpa[kJ]using hn);exact⟨z,u,by simpa using e1,e2⟩
theorem Uw (hΦ : gK P Φ) (hB : TabOk P B) (hmix : P.follows .mixedOrders = true)    (hf : P.funcs[f]? = some fn) (hb : fn.body = some c) (hn : (fn.name == "runtime.NumGoroutine") = false) (W : Wc) (A : Ann) (cut : Nat -> Nat)
  (hfl:W.o.flat=true) (hpt:ptO W.o=true) (hga:W.ag=agL B fn) (hgi:kJ true W.ag W.i=false) (hck:okC fn.ntmps cut c=true) (hlen:W.ag.length<=fn.ntmps) (hnw:noW [W.i] c=true)
  (h:∀x y,ab (W.o.strip.oks x)->ab (okL W.as y)->ab (W.pre x y)->evFc B Φ cut fn c A W x y (λz=>z=W.new x y)):aN P f (LE W):=by
 refine⟨sS hf hb hn,?_⟩;show L2 P f W;refine⟨hfl,?_⟩;intro Ab w u x us y S hE hAlt hSlt hr hargs hpre;let a0:Act:={ tmps:=us.toArray++Array.replicate (fn.ntmps-us.toArray.size) undef,defers:=[] }
 have hoks:ab (W.o.strip.oks x):=by have h1:=Rel.frz (Im':=λ_=>True) (λ_ _=>trivial) W.o x S [u] (λ_ _=>trivial) hr;have h2:=kA _ _ (ah.ok _ _ _ h1);exact h2
 let F:Fr:=⟨w,w,Ab,S,λ_=>False,fn.ntmps,kr (λ_=>none) [W.i] a0,False⟩
 let p0:Ow:=⟨λ_=>u,λ_=>S,λ_=>False⟩
 have hkk:gid=cid 9000 0:=bz
 replace h:=λh1 h2=>h x y h1 h2 hpre;unfold evFc at h;generalize cid 9000 0=kk at hkk h;generalize hM0:([(kk,⟨W.o,x⟩)]:Mem)=M0;have hg0:go M0 kk=some ⟨W.o,x⟩:=by rw[←hM0,dR,am rfl]
 have hlive:∀k,bF M0 k->k=kk:=λk hk=>by
  unfold bF at hk;rw[←hM0,dR]at hk;split at hk
  ·rename_i e;exact e.symm
  ·simp[go]at hk
 have himm:∀b,Ab b->Imm F p0 M0 w b:=λb hb=>⟨hAlt b hb,.inl hb,λh=>h,λk hk hs=>(hSlt b hs).2 hb⟩;have hrel0:Rel (Imm F p0 M0 w) w W.o x S [u]:=Rel.keep (λb hb=>⟨himm b hb,rfl⟩) _ _ _ _ (λ_ _=>rfl) hr
 have hbox:ac p0.β M0 (Imm F p0 M0 w) w (.ad kk [.de]) [u]/\u.oneCell'=true:=by
  have key:∀(o:O)(z:o.strip.den),ptO o=true->go M0 kk=some ⟨o,z⟩->Rel (Imm F p0 M0 w) w o z S [u]->ac p0.β M0 (Imm F p0 M0 w) w (.ad kk [.de]) [u]/\u.oneCell'=true:=λo z ho hgo hrl=>by
   cases o with
   |pt o1=>simp only[Rel]at hrl;obtain⟨bb,us1,ty',S1,r1,_⟩:=hrl;simp only[bH,aA]at r1;refine⟨?_,by rw[r1];rfl⟩;simp only[ac];refine⟨u,rfl,?_⟩;exact⟨_,cellsOf w bb 0 o1.size,bb,0,hgo,by simp only[gok],by simp only[get];exact⟨_,rfl⟩,by simp only[cn],by simp only[p0,r1,res],r1⟩
   |_=>cases ho
  exact key W.o x hpt hg0 hrel0
 obtain⟨hbox,hu1⟩:=hbox;obtain⟨l1,l2,l3,l4⟩:=Ka (β:=p0.β) (M:=M0) hu1 himm hbox W.ag W.as y us hargs;have he:=h hoks l3;rw[hM0]at he;have hsz:a0.tmps.size=fn.ntmps:=by simp[a0];omega
 have hget:∀t,t<us.length->a0.tmps.getD t undef=us.getD t undef:=λt ht=>by simp only[a0];rw[yR,yP (by simpa using ht)];simp[bN]
 have hp0:Hp F p0 M0 w:=⟨λk ob hk=>by have:=hlive k (cz hk);subst this;rw[hg0]at hk;cases hk;exact hrel0,λk k' b hne hk hk'=>absurd ((hlive k hk).trans (hlive k' hk').symm) hne,
  λk b hk hs=>⟨(hSlt b hs).1,.inl ⟨by rw[hlive k hk,hkk];exact aZ _,hs⟩⟩,λb hb=>hb.elim,rfl,⟨rfl,aZ _⟩,rfl,aZ _,λb _ _=>rfl⟩
 have hst:St F p0 (kV 0 (anA kk W.ag W.as y)) M0 a0 w:=by
  refine⟨rfl,hsz,λt v ht=>?_,λb hb=>hb.elim,λb hb=>hb,λt=>?_,hp0⟩
  ·simp only[F,kr]at ht
   cases hm:iP t [W.i]with
   |true=>rw[hm]at ht;simpa using ht
   |false=>rw[hm]at ht;cases ht
  ·rw[AF];simp only[dO,eX,yO]
   cases hx:(anA kk W.ag W.as y)[t]? with
   |none=>simp only[wn,aj]
   |some z=>
    have ht:=(gN.1 hx).1;have hu:us[t]? = some us[t]:=bX aa;simp only[dY];rw[hget t aa];have:us.getD t undef=us[t]:=by simp[bN,hu]
    rw[this];exact l4 t z _ hx hu
 obtain⟨zi,ui,hui,hani⟩:=Jv W.ag W.as y us W.i hargs hgi;refine calls_of_wp hf hb (qm (λe a' w' he=>?_) (lA hΦ hB hmix cut c F (hE.of λb hb _=>⟨⟨hb,λhs=>(hSlt b hs).2 hb⟩,rfl⟩) A _ _ _ hck (oc c hnw (sN c)) he p0 _ w hst))
 have key:∀p env M,St F p env M a' w'->K3 (toL fn.results) W (λz=>z=W.new x y) env M->(e=.normal\/e=.ret)->bodyPost P fn (λe w'=>∃S',e=.returned (eR [])/\ExtS w w' S/\(∀b,S' b->S b\/w.heap.size<=b/\b<w'.heap.size)/\
   Rel (λb=>b<w'.heap.size/\(Ab b\/S b\/w.heap.size<=b)/\¬S' b) w' W.o (W.new x y) S' [u]) e a' w':=by
  intro p env M hs hr hee;unfold K3 at hr;split at hr
  ·rename_i hres;split at hr
   ·rename_i k hroot;split at hr
    ·rename_i ob hob;split at hr
     ·rename_i z hz;subst hr;have hrun:(results fn a'.tmps).run P w'=.ok (eR []) w':=by rw[Dm,Cc];rw[ds]at hres;rw[hres];simp[eR]
      have hil:=(gN.1 hui).1;have hv0:a'.tmps.getD W.i undef=ui:=by have:=hs.fix W.i (a0.tmps.getD W.i undef) (by simp[F,kr,iP]);rw[this,hget W.i hil];simp[bN,hui]
      have hs0:=hs.slots W.i;rw[hv0]at hs0
      have hbx:u=p.β k:=by
       refine DD hs.hp hu1 hob (kJ .u W.as W.i) (gt env W.i) zi [ui] ?_ hani hroot;revert hroot hs0;generalize gt env W.i=V0;intro hroot hs0
       cases V0 with
       |any|ag _|tup _|gd _ _ _ _=>cases hT:kJ T.u W.as W.i<;>rw[hT]at hroot<;>simp[oZ]at hroot
       |_=>simpa only [aj]using hs0
      obtain⟨w1,w2⟩:=th hz;have hrk:=hs.hp.objs k _ hob;rw[←hbx]at hrk;obtain⟨S',s1,s2⟩:=ni ob.o W.o w1 ob.x _ (p.σ k) [u] w2 hrk;have hlk:=cz hob;have hIm:∀b,Imm F p M w' b->(b<w'.heap.size/\(Ab b\/S b\/w.heap.size<=b)/\¬S' b):=λb hb=>⟨hb.1,hb.2.1,λh=>hb.2.2.2 k hlk (s1 b h)⟩
      have hpost:∃S',Ending.returned (eR [])=.returned (eR [])/\ExtS w w' S/\(∀b,S' b->S b\/w.heap.size<=b/\b<w'.heap.size)/\
        Rel (λb=>b<w'.heap.size/\(Ab b\/S b\/w.heap.size<=b)/\¬S' b) w' W.o (W.new x y) S' [u]:=by
       refine⟨S',rfl,⟨hs.hp.os,hs.hp.tape,hs.hp.output,hs.hp.size,λb hb hn=>hs.hp.old b hb hn⟩,λb hb=>?_,s2 _ hIm (λb hb hnb=>?_)⟩
       ·have:=hs.hp.own k b hlk (s1 b hb);rcases this.2 with⟨_,h1⟩|h1
        ·exact .inl h1
        ·exact h1.elim (λh1=>.inr ⟨h1,this.1⟩) (λh1=>h1.1.elim)
       ·have:=hs.hp.own k b hlk hb;refine⟨this.1,?_,hnb⟩;rcases this.2 with⟨_,h1⟩|h1
        ·exact .inr (.inl h1)
        ·exact h1.elim (λh1=>.inr (.inr h1)) (λh1=>h1.1.elim)
      rcases hee with rfl|rfl
      ·exact⟨hs.defers,_,hrun,hpost⟩
      ·exact⟨hs.defers,_,hrun,hpost⟩
     ·exact hr.elim
    ·exact hr.elim
   ·exact hr.elim
  ·exact hr.elim
 cases e with
 |normal=>obtain⟨p,env,M,h1,h2⟩:=he;exact key p env M h1 h2 (.inl rfl)
 |ret=>obtain⟨p,env,M,h1,h2⟩:=he;exact key p env M h1 h2 (.inr rfl)
 |exit id|goto l=>obtain⟨p,env,M,h1,h2⟩:=he;exact h2.elim
 |panic ch|outgrown=>exact he.elim
end Go.Bm
