/- What the functions that FnPathsComposed reaches give: for each its contract, what it asks, and the proof. No condition. -/
import Derived.Test.YtdcandojebpfnaaFnPathsComposedFnsC
namespace Go.Bm
open Go.Proofs
set_option maxRecDepth 100000
set_option maxHeartbeats 1000000
set_option linter.unusedVariables false
set_option linter.unusedSimpArgs false
noncomputable section
theorem ama {α:Type} {p:Int->Option α}:∀ (n:Nat) (i:Int),(∀ j:Int,i<=j->j < i+n->p j=none)->jv p n i=none
 | 0,i,_=>rfl
 | n+1,i,h=>by
  unfold jv
  rw [h i (Int.le_refl _) (by omega)]
  exact ama n (i+1) fun j h0 h1=>h j (by omega) (by omega)
theorem biu {c:ac} (hc:m6 c=true) {f:Int} (f0:0<=f) (f1:f < c.2.1.length):cq c (c.2.2.2.1.getD (c.2.1.getD f.toNat 0).toNat 0) f=f/\cq c f (c.2.2.2.1.getD (c.2.2.1.getD f.toNat 0).toNat 0)=f:=by
 simp only [m6,Bool.and_eq_true,beq_iff_eq]at hc
 have h2:=hc.2
 unfold ny at h2
 cases h3:jv (pk c) c.2.1.length 0 with
 | some v=>
  obtain ⟨j,hj⟩:=adi h3
  unfold pk at hj
  split at hj
  ·cases hj;rw [h3]at h2;simp [orR]at h2
  ·cases hj
 | none=>
  have:=agc h3 f f0 (by omega)
  unfold pk at this
  split at this
  ·cases this
  ·rename_i h
   exact ⟨Classical.byContradiction fun h1=>h (.inl h1),Classical.byContradiction fun h1=>h (.inr h1)⟩
theorem bp7 {c:ac} (S:ShapeP c) (hu:∀ f:Int,0<=f->f < c.2.1.length->cq c (c.2.2.2.1.getD (c.2.1.getD f.toNat 0).toNat 0) f=f/\cq c f (c.2.2.2.1.getD (c.2.2.1.getD f.toNat 0).toNat 0)=f)
  (ha:∀ f g h:Int,0<=f->f < c.2.1.length->0<=g->g < c.2.1.length->0<=h->h < c.2.1.length->c.2.2.1.getD f.toNat 0=c.2.1.getD g.toNat 0->c.2.2.1.getD g.toNat 0=c.2.1.getD h.toNat 0->cq c (cq c f g) h=cq c f (cq c g h)):m6 c=true:=by
 have h1:jv (pk c) c.2.1.length 0=none:=ama _ _ fun j j0 j1=>by
  obtain ⟨u1,u2⟩:=hu j j0 (by omega)
  unfold pk;rw [if_neg (by intro h;rcases h with h | h;exact h u1;exact h u2)]
 have h2:jv (sy c) c.2.1.length 0=none:=ama _ _ fun f f0 f1=>by
  unfold sy
  refine ama _ _ fun g g0 g1=>?_
  unfold s8
  split
  ·rename_i e
   refine ama _ _ fun h h0 h1=>?_
   unfold v7
   rw [if_neg (by rintro ⟨e2,h2⟩;exact h2 (ha f g h f0 (by omega) g0 (by omega) h0 (by omega) e e2))]
  ·rfl
 simp only [m6,Bool.and_eq_true,beq_iff_eq]
 exact ⟨ayr S,by unfold ny;rw [h1,h2];rfl⟩
theorem bkv {c:ac}:∀ (l r:List Int) (h:Int),0<=h->pcR c h (l++r)=if pcR c h l < 0 then -1 else pcR c (pcR c h l) r
 | [],r,h,h0=>by rw [List.nil_append,pcR,if_neg (by omega)]
 | f::l,r,h,h0=>by
  rw [List.cons_append,pcR,pcR]
  by_cases e:cq c h f < 0
  ·rw [if_pos e,if_pos e];rfl
  ·rw [if_neg e,if_neg e];exact bkv l r _ (by omega)
theorem bid {c:ac} (S:ShapeP c):∀ (l:List Int) (h:Int),0<=h->h < c.2.1.length->(∀ y ∈ l,0<=y/\y < c.2.1.length)->0<=pcR c h l->pcR c h l < c.2.1.length
 | [],h,h0,h1,_,_=>h1
 | f::l,h,h0,h1,hl,hp=>by
  have hf:=hl f (List.mem_cons_self ..)
  rw [pcR]at hp ⊢
  by_cases e:cq c h f < 0
  ·rw [if_pos e]at hp;omega
  ·rw [if_neg e]at hp ⊢
   have y:=S.yes h0 h1 hf.1 hf.2 ((S.comp h0 h1 hf.1 hf.2).1 (by omega))
   exact bid S l _ y.1 y.2.1 (fun y hy=>hl y (List.mem_cons_of_mem _ hy)) hp
theorem be5 {c:ac} (hc:m6 c=true):∀ (l:List Int) (h k:Int),0<=h->h < c.2.1.length->0<=k->k < c.2.1.length->c.2.2.1.getD h.toNat 0=c.2.1.getD k.toNat 0->(∀ y ∈ l,0<=y/\y < c.2.1.length)->0<=pcR c (cq c h k) l->0<=pcR c k l/\pcR c (cq c h k) l=cq c h (pcR c k l)
 | [],h,k,_,_,k0,_,_,_,_=>⟨k0,rfl⟩
 | f::l,h,k,h0,h1,k0,k1,e,hl,hp=>by
  have S:=akd hc
  have hf:=hl f (List.mem_cons_self ..)
  have y:=S.yes h0 h1 k0 k1 e
  rw [pcR]at hp
  by_cases e2:cq c (cq c h k) f < 0
  ·rw [if_pos e2]at hp;omega
  ·rw [if_neg e2]at hp
   have e3:=(S.comp y.1 y.2.1 hf.1 hf.2).1 (by omega)
   rw [y.2.2.2]at e3
   have y2:=S.yes k0 k1 hf.1 hf.2 e3
   have e4:=bii hc h0 h1 k0 k1 hf.1 hf.2 e e3
   rw [e4]at hp
   have ih:=be5 hc l h (cq c k f) h0 h1 y2.1 y2.2.1 (by rw [y2.2.2.1];exact e) (fun y hy=>hl y (List.mem_cons_of_mem _ hy)) hp
   rw [pcR,pcR,if_neg e2,if_neg (by omega),e4]
   exact ih
theorem bpf {c:ac} {x:Int} {l:List Int} (h:(ed c x l).2=0):m6 c=true/\bn l c.2.1.length=true/\0<=x/\x < c.1/\0<=pcR c (c.2.2.2.1.getD x.toNat 0) l/\(ed c x l).1=pcR c (c.2.2.2.1.getD x.toNat 0) l:=by
 unfold ed at h ⊢
 by_cases ha:g7 c l=0
 ·rw [if_pos ha]at h ⊢
  by_cases hi:inR x 0 (c.1 - 1)=true
  ·rw [if_pos hi]at h ⊢
   by_cases hp:pcR c (c.2.2.2.1.getD x.toNat 0) l < 0
   ·rw [if_pos hp]at h;cases h
   ·rw [if_neg hp]at h ⊢
    simp only [inR,Bool.and_eq_true,decide_eq_true_eq]at hi
    unfold g7 at ha
    by_cases hc:m6 c=true
    ·rw [if_pos hc]at ha
     by_cases hw:bn l c.2.1.length=true
     ·exact ⟨hc,hw,hi.1,by omega,by omega,rfl⟩
     ·rw [if_neg hw]at ha;omega
    ·rw [if_neg hc]at ha;omega
  ·rw [if_neg hi]at h;cases h
 ·rw [if_neg ha]at h;exact absurd h ha
theorem bjn {c:ac} {x:Int} {l:List Int} (hc:m6 c=true) (hw:bn l c.2.1.length=true) (x0:0<=x) (x1:x < c.1) (hp:0<=pcR c (c.2.2.2.1.getD x.toNat 0) l):ed c x l=(pcR c (c.2.2.2.1.getD x.toNat 0) l,0):=by
 unfold ed
 rw [if_pos (by unfold g7;rw [if_pos hc,if_pos hw]),if_pos (by simp only [inR,Bool.and_eq_true,decide_eq_true_eq];omega),if_neg (by omega)]
theorem aqe {l:List Int} {n:Int}:bn l n=true<->∀ y ∈ l,0<=y/\y < n:=by
 simp only [bn,List.all_eq_true,inR,Bool.and_eq_true,decide_eq_true_eq]
 constructor <;> intro h y hy <;> have:=h y hy <;> omega
theorem bpg {c:ac} {x:Int} {l:List Int} {k:Nat} (h:(ed c x l).2=0) :
  (ed c x (l.take k)).2=0/\(0<=(ed c x (l.take k)).1/\(ed c x (l.take k)).1 < c.2.2.1.length)/\(ed c (c.2.2.1.getD (ed c x (l.take k)).1.toNat 0) (l.drop k)).2=0/\
  aho c (ed c x (l.take k)).1 (ed c (c.2.2.1.getD (ed c x (l.take k)).1.toNat 0) (l.drop k)).1=((ed c x l).1,0):=by
 obtain ⟨hc,hw,x0,x1,hp,he⟩:=bpf h
 have S:=akd hc
 have hi:=S.idn x0 x1
 have hl:=aqe.1 hw
 have h1:∀ y ∈ l.take k,0<=y/\y < (c.2.1.length:Int):=fun y hy=>hl y (List.mem_of_mem_take hy)
 have h2:∀ y ∈ l.drop k,0<=y/\y < (c.2.1.length:Int):=fun y hy=>hl y (List.mem_of_mem_drop hy)
 have hap:=bkv (c:=c) (l.take k) (l.drop k) (c.2.2.2.1.getD x.toNat 0) hi.1
 rw [List.take_append_drop]at hap
 have ha0:¬ pcR c (c.2.2.2.1.getD x.toNat 0) (l.take k) < 0:=fun hn=>by rw [if_pos hn]at hap;omega
 rw [if_neg ha0]at hap
 have ha1:=bid S (l.take k) _ hi.1 hi.2.1 h1 (by omega)
 have e1:=bjn hc (aqe.2 h1) x0 x1 (by omega)
 rw [e1,he,hap]
 rw [hap]at hp
 dsimp only
 generalize pcR c (c.2.2.2.1.getD x.toNat 0) (l.take k)=a at *
 have hf:=S.frm (f:=a) (by omega) ha1
 have hj:=S.idn hf.2.2.1 hf.2.2.2
 have hu:=(biu hc (f:=a) (by omega) ha1).2
 have hcm:=be5 hc (l.drop k) a (c.2.2.2.1.getD (c.2.2.1.getD a.toNat 0).toNat 0) (by omega) ha1 hj.1 hj.2.1 hj.2.2.1.symm h2 (by rw [hu];exact hp)
 rw [hu]at hcm
 have e2:=bjn hc (aqe.2 h2) hf.2.2.1 hf.2.2.2 hcm.1
 have hb1:=bid S (l.drop k) _ hj.1 hj.2.1 h2 hcm.1
 have hlt:=S.lt
 rw [e2]
 refine ⟨rfl,⟨by omega,by omega⟩,rfl,?_⟩
 unfold aho
 have hw2:bn [a,pcR c (c.2.2.2.1.getD (c.2.2.1.getD a.toNat 0).toNat 0) (l.drop k)] c.2.1.length=true:=aqe.2 fun y hy=>by
  rcases List.mem_cons.1 hy with rfl | hy
  ·exact ⟨by omega,ha1⟩
  ·rw [List.mem_singleton.1 hy];exact ⟨hcm.1,hb1⟩
 rw [if_pos (by unfold g7;rw [if_pos hc,if_pos hw2]),← hcm.2,if_neg (by omega)]
def an5 (fr to:List Int) (o:Option Int) (e:Int):Option Int:=o.bind fun y=>if 0<=e/\e < fr.length/\fr.getD e.toNat 0=y then some (to.getD e.toNat 0)else none
def zq (fr to:List Int) (x:Int) (es:List Int):Option Int:=es.foldl (an5 fr to) (some x)
theorem be2 {fr to:List Int} {x y:Int} {es fs:List Int} (h:zq fr to x es=some y):zq fr to x (es++fs)=zq fr to y fs:=by
 unfold zq at h ⊢;rw [List.foldl_append,h]
theorem as4 {fr to:List Int} {x:Int} {es:List Int} {e:Int}:zq fr to x (es++[e])=an5 fr to (zq fr to x es) e:=by
 unfold zq;rw [List.foldl_append];rfl
theorem as0 {fr to:List Int} {o:Option Int} {e z:Int} (h:an5 fr to o e=some z):∃ y,o=some y/\(0<=e/\e < fr.length)/\fr.getD e.toNat 0=y/\z=to.getD e.toNat 0:=by
 unfold an5 at h
 cases o with
 | none=>cases h
 | some y=>
  simp only [Option.bind_some]at h
  split at h
  ·rename_i hc;cases h;exact ⟨y,rfl,⟨hc.1,hc.2.1⟩,hc.2.2,rfl⟩
  ·cases h
theorem bji {fr to:List Int} {y e:Int} (h0:0<=e) (h1:e < fr.length) (h:fr.getD e.toNat 0=y):an5 fr to (some y) e=some (to.getD e.toNat 0):=by
 unfold an5;simp only [Option.bind_some];rw [if_pos ⟨h0,h1,h⟩]
theorem bez {es:List Int} {n:Nat} (h:es.length=n+1):∃ fs e,es=fs++[e]/\fs.length=n:=by
 have hne:es ≠ []:=by intro e;rw [e]at h;cases h
 exact ⟨es.dropLast,es.getLast hne,(List.dropLast_concat_getLast hne).symm,by rw [List.length_dropLast];omega⟩
theorem azj {fr to:List Int}:∀ es:List Int,es.foldl (an5 fr to) none=none
 | []=>rfl
 | e::es=>azj es
def akh (n:Int) (fr to:List Int) (p:PtT):Prop:=(0<=p.1/\p.1 < n)/\zq fr to p.1 p.2.2=some p.2.1
theorem bir {n:Int} {fr to:List Int} {p:PtT} (h:p ∈ pn n):akh n fr to p:=by
 have:=ac3 h
 refine ⟨⟨this.1,this.2.1⟩,?_⟩
 rw [this.2.2.2,this.2.2.1];rfl
theorem bau {n:Int} {fr to:List Int} {p q:PtT} (hp:akh n fr to p) (h:q ∈ tg fr to p):akh n fr to q/\∃ e:Int,0<=e/\e < fr.length/\fr.getD e.toNat 0=p.2.1/\q=(p.1,to.getD e.toNat 0,p.2.2++[e]):=by
 unfold tg pf at h
 obtain ⟨e,he,rfl⟩:=List.mem_map.1 h
 obtain ⟨he,hf⟩:=List.mem_filter.1 he
 obtain ⟨_,h0,h1,rfl⟩:=n7.1 he
 have hf:fr.getD e.toNat 0=p.2.1:=eq_of_beq hf
 refine ⟨⟨hp.1,?_⟩,e,h0,h1,hf,rfl⟩
 show zq fr to p.1 (p.2.2++[e])=some (to.getD e.toNat 0)
 rw [as4,hp.2,bji h0 h1 hf]
theorem bnl {fr to:List Int} {p:PtT} {e:Int} (h0:0<=e) (h1:e < fr.length) (h:fr.getD e.toNat 0=p.2.1):(p.1,to.getD e.toNat 0,p.2.2++[e]) ∈ tg fr to p:=by
 unfold tg pf
 exact List.mem_map.2 ⟨e,List.mem_filter.2 ⟨n7.2 ⟨e,h0,h1,rfl⟩,beq_iff_eq.2 h⟩,rfl⟩
theorem bo8 {n:Int} {fr to:List Int}:∀ (u k:Nat) (l:List PtT),(∀ p ∈ l,akh n fr to p)->∀ p ∈ mj fr to u k l,akh n fr to p:=
 aob (akh n fr to) fun p e hp h0 h1 hf=>(bau hp (bnl h0 h1 hf)).1
theorem adp {l:List PtT} {k:Nat} (h:k < l.length):l.getD k (0,(0,[]))=l[k]:=by
 rw [List.getD_eq_getElem?_getD,List.getElem?_eq_getElem h,Option.getD_some]
theorem ben {fr to:List Int}:∀ (u k:Nat) (l:List PtT),k+u=42->(∀ i,i < k->i < l.length->∀ q ∈ tg fr to (l.getD i (0,(0,[]))),q ∈ l)->(mj fr to u k l).length<=40->
  (∀ p ∈ l,p ∈ mj fr to u k l)/\∀ i,i < (mj fr to u k l).length->∀ q ∈ tg fr to ((mj fr to u k l).getD i (0,(0,[]))),q ∈ mj fr to u k l
 | 0,k,l,hk,h,hg=>⟨fun p hp=>hp,fun i hi=>h i (by have:(mj fr to 0 k l)=l:=rfl;rw [this]at hi hg;omega) hi⟩
 | u+1,k,l,hk,h,hg=>by
  unfold mj at hg ⊢
  split
  ·rename_i hc
   rw [if_pos hc]at hg
   have hx:∀ i,i < k+1->i < (l++tg fr to (l.getD k (0,(0,[])))).length->∀ q ∈ tg fr to ((l++tg fr to (l.getD k (0,(0,[])))).getD i (0,(0,[]))),q ∈ l++tg fr to (l.getD k (0,(0,[]))):=by
    intro i hi hl q hq
    by_cases hik:i=k
    ·subst hik
     rw [ade hc.1]at hq
     exact List.mem_append_right _ hq
    ·rw [ade (by omega)]at hq
     exact List.mem_append_left _ (h i (by omega) (by omega) q hq)
   obtain ⟨h1,h2⟩:=ben u (k+1) _ (by omega) hx hg
   exact ⟨fun p hp=>h1 p (List.mem_append_left _ hp),h2⟩
  ·rename_i hc
   rw [if_neg hc]at hg
   exact ⟨fun p hp=>hp,fun i hi=>h i (by omega) hi⟩
theorem bfq {a b:List Int} {x y:Int} (h:a++[x]=b++[y]):a=b/\x=y:=by
 have:=List.append_inj' h rfl
 exact ⟨this.1,List.head_eq_of_cons_eq this.2⟩
theorem bkx {l:List PtT} (h:l.Nodup) {i j:Nat} (hi:i < l.length) (hj:j < l.length) (e:l[i]=l[j]):i=j:=by
 rcases Nat.lt_trichotomy i j with hh | hh | hh
 ·exact absurd e (List.pairwise_iff_getElem.1 h i j hi hj hh)
 ·exact hh
 ·exact absurd e.symm (List.pairwise_iff_getElem.1 h j i hj hi hh)
structure NdP (n:Int) (fr to:List Int) (k:Nat) (l:List PtT):Prop where
 nd:l.Nodup
 v:∀ p ∈ l,akh n fr to p
 b:∀ p ∈ l,∀ es e,p.2.2=es++[e]->∃ i,i < k/\i < l.length/\∃ y,l.getD i (0,(0,[]))=(p.1,y,es)
theorem auu:∀ n:Nat,(ce n fun e=>e).Nodup
 | 0=>List.nodup_nil
 | n+1=>by
  show (ce n (fun e=>e)++[(n:Int)]).Nodup
  rw [List.nodup_append]
  refine ⟨auu n,by simp,fun x hx y hy=>?_⟩
  obtain ⟨i,h0,h1,rfl⟩:=n7.1 hx
  rw [List.mem_singleton.1 hy];omega
theorem bqi {fr to:List Int} {p:PtT}:(tg fr to p).Nodup:=by
 unfold tg pf
 refine List.pairwise_map.2 (((auu fr.length).filter _).imp fun {a b} hab h=>hab ?_)
 have h2:p.2.2++[a]=p.2.2++[b]:=congrArg (fun q:PtT=>q.2.2) h
 exact (bfq h2).2
theorem bgk {n:Int} {fr to:List Int}:∀ (u k:Nat) (l:List PtT),NdP n fr to k l->(mj fr to u k l).Nodup
 | 0,_,_,h=>h.nd
 | u+1,k,l,h=>by
  unfold mj
  split
  ·rename_i hc
   have hk:l.getD k (0,(0,[])) ∈ l:=by rw [adp hc.1];exact List.getElem_mem hc.1
   have hv:=h.v _ hk
   refine bgk (n:=n) u (k+1) _ ⟨?_,?_,?_⟩
   ·rw [List.nodup_append]
    refine ⟨h.nd,bqi,fun q hq q' hq' hqq=>?_⟩
    subst hqq
    obtain ⟨_,e,_,_,_,he⟩:=bau hv hq'
    obtain ⟨i,hi,hil,y,hy⟩:=h.b q hq (l.getD k (0,(0,[]))).2.2 e (by rw [he])
    have hvi:=h.v _ (show l.getD i (0,(0,[])) ∈ l by rw [adp hil];exact List.getElem_mem hil)
    rw [hy]at hvi
    have e1:q.1=(l.getD k (0,(0,[]))).1:=by rw [he]
    have e2:=hvi.2
    dsimp only at e2
    rw [e1,hv.2]at e2
    have e3:l.getD i (0,(0,[]))=l.getD k (0,(0,[])):=by rw [hy,e1,← Option.some.inj e2]
    rw [adp hil,adp hc.1]at e3
    exact absurd (bkx h.nd hil hc.1 e3) (by omega)
   ·intro q hq
    rcases List.mem_append.1 hq with hq | hq
    ·exact h.v q hq
    ·exact (bau hv hq).1
   ·intro q hq es e he
    rcases List.mem_append.1 hq with hq | hq
    ·obtain ⟨i,hi,hil,y,hy⟩:=h.b q hq es e he
     exact ⟨i,by omega,by rw [List.length_append];omega,y,by rw [ade hil];exact hy⟩
    ·obtain ⟨_,e',_,_,_,hq'⟩:=bau hv hq
     rw [hq']at he
     have:=bfq he
     refine ⟨k,by omega,by rw [List.length_append];omega,(l.getD k (0,(0,[]))).2.1,?_⟩
     rw [ade hc.1,hq',← this.1]
  ·exact h.nd
theorem bol {n:Int} {fr to:List Int}:NdP n fr to 0 (pn n):=⟨by
  unfold pn
  have:(ce n.toNat fun x=>((x,x,[]):PtT))=(ce n.toNat fun x=>x).map fun x=>(x,x,[]):=by
   generalize n.toNat=k
   induction k with
   | zero=>rfl
   | succ k ih=>show _++[_]=List.map _ (_++[_]);rw [ih,List.map_append];rfl
  rw [this]
  exact List.pairwise_map.2 ((auu _).imp fun {a b} hab h=>hab (congrArg Prod.fst h)),fun p hp=>bir hp,fun p hp es e he=>by
  rw [(ac3 hp).2.2.2]at he
  have:=congrArg List.length he
  simp at this⟩
structure AllP (n:Int) (fr to:List Int) (l:List PtT):Prop where
 m:l.length<=40
 v:∀ p ∈ l,akh n fr to p
 nd:l.Nodup
 c:∀ x y es,0<=x->x < n->zq fr to x es=some y->(x,y,es) ∈ l
theorem bml {n:Int} {fr to:List Int} (h:(u6 n fr to).length<=40):AllP n fr to (u6 n fr to):=by
 have hz:∀ p ∈ pn n,akh n fr to p:=fun p hp=>bir hp
 obtain ⟨h1,h2⟩:=ben 42 0 (pn n) rfl (fun i hi=>by omega) h
 refine ⟨h,bo8 42 0 _ hz,bgk 42 0 _ bol,?_⟩
 have key:∀ (m:Nat) (x y:Int) (es:List Int),es.length=m->0<=x->x < n->zq fr to x es=some y->(x,y,es) ∈ u6 n fr to:=by
  intro m
  induction m with
  | zero=>
   intro x y es he x0 x1 hw
   have he:=List.eq_nil_of_length_eq_zero he
   subst he
   have:x=y:=Option.some.inj hw
   subst this
   refine h1 _ ?_
   unfold pn
   exact n7.2 ⟨x,x0,by omega,rfl⟩
  | succ m ih=>
   intro x y es he x0 x1 hw
   obtain ⟨fs,e,rfl,hf⟩:=bez he
   rw [as4]at hw
   obtain ⟨y',q1,q2,q3,q4⟩:=as0 hw
   have hm:=ih x y' fs hf x0 x1 q1
   obtain ⟨i,hi,hq⟩:=List.getElem_of_mem hm
   have h3:=h2 i hi (x,to.getD e.toNat 0,fs++[e]) (by
    show _ ∈ tg fr to ((u6 n fr to).getD i (0,(0,[])))
    rw [adp hi,hq]
    exact bnl (p:=(x,y',fs)) q2.1 q2.2 q3)
   rw [q4];exact h3
 exact fun x y es x0 x1 hw=>key _ x y es rfl x0 x1 hw
theorem biv:∀ a b:List Int,xf a b=true<->kf a b < 0
 | [],[]=>by simp [xf,kf]
 | [],_::_=>by simp [xf,kf]
 | _::_,[]=>by simp [xf,kf]
 | x::a,y::b=>by
  simp only [xf,kf]
  by_cases h:x=y
  ·rw [if_pos h,if_pos h];exact biv a b
  ·rw [if_neg h,if_neg h]
   by_cases h2:x < y
   ·rw [if_pos h2];simp [h2]
   ·rw [if_neg h2];simp [h2]
theorem akg {a b:PtT}:ae2 a b=true<->se (jw a) (jw b) < 0:=by
 have hl:=biv a.2.2 b.2.2
 have hr:=@bg6 (jw a) (jw b)
 rw [hr]
 show ae2 a b=true<->a.1 < b.1\/(a.1=b.1/\(a.2.1 < b.2.1\/(a.2.1=b.2.1/\kf a.2.2 b.2.2 < 0)))
 unfold ae2
 split
 ·split
  ·rw [hl];omega
  ·simp only [decide_eq_true_eq];omega
 ·simp only [decide_eq_true_eq];omega
theorem ber {x:PtT}:∀ l:List PtT,l.Pairwise (fun a b=>¬ ae2 a b=true)->(yx x l).Pairwise (fun a b=>¬ ae2 a b=true)
 | [],_=>by unfold yx;exact List.pairwise_singleton _ _
 | y::r,h=>by
  have h0:=List.pairwise_cons.1 h
  unfold yx
  by_cases hb:ae2 x y=true
  ·rw [if_pos hb]
   refine List.pairwise_cons.2 ⟨fun z hz=>?_,ber r h0.2⟩
   rcases List.mem_cons.1 ((ar4 r).mem_iff.1 hz)with e | e
   ·subst e
    intro h2
    exact bnh _ (bh1 (akg.1 hb) (akg.1 h2))
   ·exact h0.1 z e
  ·rw [if_neg hb]
   refine List.pairwise_cons.2 ⟨fun z hz=>?_,h⟩
   rcases List.mem_cons.1 hz with e | e
   ·subst e;exact hb
   ·intro h2
    have h3:=h0.1 z e
    by_cases h4:se (jw y) (jw x) < 0
    ·exact h3 (akg.2 (bh1 h4 (akg.1 h2)))
    ·have:=bho (fun hh=>hb (akg.2 hh)) h4
     exact h3 (akg.2 (by rw [← this];exact akg.1 h2))
theorem bdp:∀ (l a:List PtT),a.Pairwise (fun a b=>¬ ae2 a b=true)->(l.foldl (fun a x=>yx x a) a).Pairwise (fun a b=>¬ ae2 a b=true)
 | [],_,h=>h
 | _::l,a,h=>bdp l _ (ber a h)
theorem bi0 (l:List PtT):((yo l).map jw).Pairwise fun a b=>¬ se b a < 0:=by
 refine List.pairwise_map.2 ?_
 unfold yo
 refine List.pairwise_reverse.2 ((bdp l [] List.Pairwise.nil).imp fun {a b} h h2=>h (akg.2 h2))
theorem bcu:∀ {l m:List eq},l.Perm m->l.Pairwise (fun a b=>¬ se b a < 0)->m.Pairwise (fun a b=>¬ se b a < 0)->l=m
 | [],m,h,_,_=>(List.nil_perm.1 h).symm
 | a::l,[],h,_,_=>absurd h.length_eq (by simp)
 | a::l,b::m,h,h1,h2=>by
  have e:a=b:=by
   by_cases e:a=b
   ·exact e
   ·have ha:a ∈ b::m:=h.mem_iff.1 (List.mem_cons_self ..)
    have hb:b ∈ a::l:=h.mem_iff.2 (List.mem_cons_self ..)
    have ha:=(List.mem_cons.1 ha).resolve_left e
    have hb:=(List.mem_cons.1 hb).resolve_left (Ne.symm e)
    exact bho ((List.pairwise_cons.1 h2).1 a ha) ((List.pairwise_cons.1 h1).1 b hb)
  subst e
  rw [bcu (List.Perm.cons_inv h) (List.pairwise_cons.1 h1).2 (List.pairwise_cons.1 h2).2]
theorem bmk (l:List PtT):al3 (l.map jw)=(yo l).map jw:=
 bcu ((ams _).trans ((aef l).map jw).symm) (bdl _) (bi0 l)
theorem AllP.sort {n:Int} {fr to:List Int} {l:List PtT} (h:AllP n fr to l):AllP n fr to (yo l):=by
 have p:=aef l
 exact ⟨by rw [p.length_eq];exact h.m,fun q hq=>h.v q (p.mem_iff.1 hq),(p.nodup_iff).2 h.nd,fun x y es h0 h1 hw=>p.mem_iff.2 (h.c x y es h0 h1 hw)⟩
section
variable {n:Int} {fr to:List Int} {l:List PtT}
theorem AllP.at_ (H:AllP n fr to l) {i:Int} (i0:0<=i) (i1:i < l.length):akh n fr to (pAt l i):=H.v _ (gf l _ i0 i1)
theorem AllP.inj (H:AllP n fr to l) {i j:Int} (i0:0<=i) (i1:i < l.length) (j0:0<=j) (j1:j < l.length) (h:pAt l i=pAt l j):i=j:=by
 have h1:i.toNat < l.length:=by omega
 have h2:j.toNat < l.length:=by omega
 unfold pAt at h
 rw [adp h1,adp h2]at h
 have:=bkx H.nd h1 h2 h
 omega
theorem AllP.ix (H:AllP n fr to l) {x y:Int} {es:List Int} (x0:0<=x) (x1:x < n) (hw:zq fr to x es=some y):∃ k:Int,0<=k/\k < l.length/\pAt l k=(x,y,es):=by
 obtain ⟨i,hi,hq⟩:=List.getElem_of_mem (H.c x y es x0 x1 hw)
 exact ⟨i,by omega,by omega,by unfold pAt;rw [Int.toNat_natCast,adp hi,hq]⟩
theorem bft {p:eq->Bool}:∀ (s:List eq) (k:Int) (m:Nat),m < s.length->p (s.getD m ((0,0),[]))=true->(∀ i,i < m->p (s.getD i ((0,0),[]))=false)->ann p s k=k+m
 | [],_,m,h,_,_=>by simp at h
 | x::s,k,0,_,h,_=>by unfold ann;simp only [List.getD_cons_zero]at h;rw [if_pos h];simp
 | x::s,k,m+1,hm,h,hf=>by
  have h0:=hf 0 (by omega)
  simp only [List.getD_cons_zero]at h0
  unfold ann
  rw [if_neg (by rw [h0];decide),bft s (k+1) m (by simpa using hm) (by simpa using h) (fun i hi=>by simpa using hf (i+1) (by omega))]
  omega
theorem bfl {p:Int->Bool} {m:Int} (m0:0<=m) (hp:p m=true):∀ (n:Nat),m < n->(∀ i:Int,m < i->i < n->p i=false)->ajk n p=m
 | 0,h,_=>by omega
 | n+1,h,hf=>by
  have e:=@bj6 p n (by omega)
  rw [show ((n:Int)+1).toNat=n+1 from by omega,Int.toNat_natCast]at e
  rw [e]
  by_cases h2:m=n
  ·rw [← h2,if_pos hp]
  ·rw [if_neg (by rw [hf n (by omega) (by omega)];decide)]
   exact bfl m0 hp n (by omega) fun i h3 h4=>hf i h3 (by omega)
theorem au4 {i:Int}:yv (l.map jw) i=jw (pAt l i):=bdg
theorem AllP.cmp (H:AllP n fr to l) {i j:Int} (i0:0<=i) (i1:i < l.length) (j0:0<=j) (j1:j < l.length) (e:(pAt l i).2.1=(pAt l j).1) :
  ∃ k:Int,0<=k/\k < l.length/\pAt l k=((pAt l i).1,(pAt l j).2.1,(pAt l i).2.2++(pAt l j).2.2)/\vh l i j=k/\zr (l.map jw) i j=k:=by
 have hi:=H.at_ i0 i1
 have hj:=H.at_ j0 j1
 have hw:=hj.2
 rw [← e]at hw
 have hw2:=be2 (fs:=(pAt l j).2.2) hi.2
 rw [hw]at hw2
 obtain ⟨k,k0,k1,hk⟩:=H.ix hi.1.1 hi.1.2 hw2
 have hjk:∀ m:Int,0<=m->m < l.length->(ad2 l i j m=true<->m=k):=fun m m0 m1=>by
  simp only [ad2,Bool.and_eq_true,beq_iff_eq,adg]
  constructor
  ·rintro ⟨h1,h2⟩
   refine H.inj m0 m1 k0 k1 ?_
   have hm:=H.at_ m0 m1
   have h3:=hm.2
   rw [h1,h2,hw2]at h3
   rw [hk]
   refine Prod.ext h1 (Prod.ext (Option.some.inj h3).symm h2)
  ·rintro rfl
   rw [hk];exact ⟨rfl,rfl⟩
 refine ⟨k,k0,k1,hk,?_,?_⟩
 ·unfold vh
  rw [if_pos e]
  refine bfl k0 ((hjk k k0 k1).2 rfl) _ k1 fun m h1 h2=>?_
  cases hb:ad2 l i j m with
  | false=>rfl
  | true=>have:=(hjk m (by omega) h2).1 hb;omega
 ·unfold zr aqp
  rw [au4,au4]
  have hs:∀ m:Nat,m < l.length->(ad7 (l.map jw) i j ((jw (pAt l i)).2++(jw (pAt l j)).2) ((l.map jw).getD m ((0,0),[]))=true<->(m:Int)=k):=fun m m1=>by
   rw [bdg]
   have hp:l.getD m (0,(0,[]))=pAt l m:=rfl
   rw [hp]
   unfold ad7
   rw [au4,au4]
   simp only [Bool.and_eq_true,beq_iff_eq,adg]
   constructor
   ·rintro ⟨⟨h1,h2⟩,h3⟩
    refine H.inj (by omega) (by omega) k0 k1 ?_
    rw [hk]
    exact Prod.ext h1 (Prod.ext h2 h3)
   ·intro h
    rw [h,hk]
    exact ⟨⟨rfl,rfl⟩,rfl⟩
  have:=bft (p:=ad7 (l.map jw) i j ((jw (pAt l i)).2++(jw (pAt l j)).2)) (l.map jw) 0 k.toNat (by rw [List.length_map];omega) ((hs _ (by omega)).2 (by omega)) (fun m hm=>by
   cases hb:ad7 (l.map jw) i j ((jw (pAt l i)).2++(jw (pAt l j)).2) ((l.map jw).getD m ((0,0),[]))with
   | false=>rfl
   | true=>have:=(hs m (by omega)).1 hb;omega)
  rw [this];omega
theorem bcq {i j:Int} (e:¬ (pAt l i).2.1=(pAt l j).1):vh l i j=-1:=by unfold vh;rw [if_neg e]
theorem at7 {g:PtT->Int} (h0:g (0,(0,[]))=0) {i:Int}:(l.map g).getD i.toNat 0=g (pAt l i):=by
 unfold pAt
 simp only [List.getD_eq_getElem?_getD,List.getElem?_map]
 cases l[i.toNat]? with
 | none=>exact h0.symm
 | some x=>rfl
theorem bjt (H:AllP n fr to l) {x k:Int} (x0:0<=x) (x1:x < n) (k0:0<=k) (k1:k < l.length) (hk:pAt l k=(x,x,[])):∀ i:Nat,i<=l.length->(aau l n i).getD x.toNat 0=if k < i then k else 0
 | 0,_=>by
  rw [if_neg (by omega)]
  have:aau l n 0=List.replicate n.toNat 0:=rfl
  rw [this,List.getD_eq_getElem?_getD,List.getElem?_replicate]
  split <;> rfl
 | i+1,hi=>by
  have ih:=bjt H x0 x1 k0 k1 hk i (by omega)
  have hs:=@bdu l n i (by omega)
  have hl:=@ai4 l n i
  rw [show ((i:Int)+1).toNat=i+1 from by omega,Int.toNat_natCast]at hs
  rw [hs]
  by_cases e:(i:Int)=k
  ·rw [if_pos (show (pAt l i).2.2.length=0 by rw [e,hk];rfl),if_pos (show k < ((i+1:Nat):Int) by omega),e,hk]
   show ((aau l n i).set x.toNat k).getD x.toNat 0=k
   rw [List.getD_eq_getElem?_getD,List.getElem?_set_self (by rw [hl];omega)]
   rfl
  ·have h2:(if k < ((i+1:Nat):Int)then k else 0)=if k < (i:Int)then k else 0:=by
    by_cases h3:k < (i:Int)
    ·rw [if_pos h3,if_pos (by omega)]
    ·rw [if_neg h3,if_neg (by omega)]
   rw [h2,← ih]
   split
   ·rename_i hz
    have hv:=H.at_ (i:=i) (by omega) (by omega)
    have hz:=List.eq_nil_of_length_eq_zero hz
    have hne:(pAt l i).1 ≠ x:=fun hx=>by
     have h4:=hv.2
     rw [hz]at h4
     have h5:(pAt l i).1=(pAt l i).2.1:=Option.some.inj h4
     refine e (H.inj (by omega) (by omega) k0 k1 ?_)
     rw [hk]
     exact Prod.ext hx (Prod.ext (h5.symm.trans hx) hz)
    have h6:=hv.1
    rw [List.getD_eq_getElem?_getD,List.getElem?_set_ne (by omega),← List.getD_eq_getElem?_getD]
   ·rfl
end
section
variable {n:Int} {fr to:List Int} {l:List PtT}
theorem bj3 (hto:bn to n=true) (hl:to.length=fr.length):∀ (m:Nat) (x y:Int) (es:List Int),es.length=m->0<=x->x < n->zq fr to x es=some y->0<=y/\y < n
 | 0,x,y,es,he,x0,x1,hw=>by
  have he:=List.eq_nil_of_length_eq_zero he
  subst he
  have:x=y:=Option.some.inj hw
  omega
 | m+1,x,y,es,he,_,_,hw=>by
  obtain ⟨fs,e,rfl,_⟩:=bez he
  rw [as4]at hw
  obtain ⟨y',_,q2,_,q4⟩:=as0 hw
  rw [q4]
  exact io.1 hto e q2.1 (by omega)
def qy (l:List PtT):List (List Int):=ce l.length fun i=>ce l.length (vh l i)
theorem aa6 {f g:Int} (f0:0<=f) (f1:f < l.length) (g0:0<=g) (g1:g < l.length):cq (qf n l (qy l)) f g=vh l f g:=by
 show ((qy l).getD f.toNat []).getD g.toNat 0=_
 unfold qy
 rw [uy f0 f1,uy g0 g1]
theorem aj5 {i:Int}:(qf n l (qy l)).2.1.getD i.toNat 0=(pAt l i).1:=at7 (g:=(·.1)) rfl
theorem anb {i:Int}:(qf n l (qy l)).2.2.1.getD i.toNat 0=(pAt l i).2.1:=at7 (g:=(·.2.1)) rfl
theorem AllP.idt (H:AllP n fr to l) {x:Int} (x0:0<=x) (x1:x < n):∃ k:Int,0<=k/\k < l.length/\pAt l k=(x,x,[])/\(qf n l (qy l)).2.2.2.1.getD x.toNat 0=k:=by
 obtain ⟨k,k0,k1,hk⟩:=H.ix (es:=[]) x0 x1 (show zq fr to x []=some x from rfl)
 refine ⟨k,k0,k1,hk,?_⟩
 show (aau l n l.length).getD x.toNat 0=k
 rw [bjt H x0 x1 k0 k1 hk l.length (Nat.le_refl _),if_pos k1]
theorem AllP.shape (H:AllP n fr to l) (n0:0<=n) (n8:n<=8) (hto:bn to n=true) (hl:to.length=fr.length):ShapeP (qf n l (qy l)):=by
 have hm:=H.m
 have e1:(qf n l (qy l)).2.1.length=l.length:=List.length_map ..
 have e2:(qf n l (qy l)).2.2.1.length=l.length:=List.length_map ..
 have e3:(qf n l (qy l)).2.2.2.1.length=n.toNat:=ai4 _
 have e4:(qf n l (qy l)).2.2.2.2.length=l.length:=c6 _
 have hv:∀ i:Int,0<=i->i < l.length->(0<=(pAt l i).1/\(pAt l i).1 < n)/\0<=(pAt l i).2.1/\(pAt l i).2.1 < n:=fun i i0 i1=>by
  have h:=H.at_ i0 i1
  exact ⟨h.1,bj3 hto hl _ _ _ _ rfl h.1.1 h.1.2 h.2⟩
 refine ⟨⟨n0,n8⟩,by rw [e1];exact hm,by rw [e1,e2],io.2 fun i i0 i1=>?_,io.2 fun i i0 i1=>?_,by rw [e3];show ((n.toNat:Nat):Int)=n;omega,io.2 fun i i0 i1=>?_,by rw [e4,e1],fun x x0 x1=>?_,fun f f0 f1=>?_,fun f g f0 f1 g0 g1=>?_⟩
 ·rw [aj5];exact (hv i i0 (by omega)).1
 ·rw [anb];exact (hv i i0 (by omega)).2
 ·rw [e3]at i1
  obtain ⟨k,k0,k1,_,hk⟩:=H.idt i0 (by omega)
  rw [hk,e1];exact ⟨k0,k1⟩
 ·obtain ⟨k,k0,k1,hk,hi⟩:=H.idt x0 x1
  rw [hi,aj5,anb,hk];exact ⟨rfl,rfl⟩
 ·rw [e1]at f1 ⊢
  show ((qy l).getD f.toNat []).length=_
  unfold qy
  rw [uy f0 f1,c6]
 ·rw [e1]at f1 g1
  unfold v8 aaa
  rw [aa6 f0 f1 g0 g1,anb,aj5,aj5,aj5,anb,anb,e1]
  by_cases e:(pAt l f).2.1=(pAt l g).1
  ·rw [if_pos e]
   obtain ⟨k,k0,k1,hk,hc,_⟩:=H.cmp f0 f1 g0 g1 e
   rw [hc,hk,decide_eq_true_eq]
   exact ⟨k0,k1,rfl,rfl⟩
  ·rw [if_neg e,bcq e];rfl
theorem AllP.cat (H:AllP n fr to l) (n0:0<=n) (n8:n<=8) (hto:bn to n=true) (hl:to.length=fr.length):m6 (qf n l (qy l))=true:=by
 have S:=H.shape n0 n8 hto hl
 have e1:(qf n l (qy l)).2.1.length=l.length:=List.length_map ..
 refine bp7 S (fun f f0 f1=>?_) (fun f g h f0 f1 g0 g1 h0 h1 e2 e3=>?_)
 ·have hf:=S.frm f0 f1
  rw [e1]at f1
  rw [aj5,anb]at hf ⊢
  obtain ⟨a,a0,a1,ha,hai⟩:=H.idt hf.1 hf.2.1
  obtain ⟨b,b0,b1,hb,hbi⟩:=H.idt hf.2.2.1 hf.2.2.2
  rw [hai,hbi,aa6 a0 a1 f0 f1,aa6 f0 f1 b0 b1]
  constructor
  ·obtain ⟨k,k0,k1,hk,hc,_⟩:=H.cmp a0 a1 f0 f1 (by rw [ha])
   rw [hc]
   refine H.inj k0 k1 f0 f1 ?_
   rw [hk,ha];rfl
  ·obtain ⟨k,k0,k1,hk,hc,_⟩:=H.cmp f0 f1 b0 b1 (by rw [hb])
   rw [hc]
   refine H.inj k0 k1 f0 f1 ?_
   rw [hk,hb,List.append_nil]
 ·rw [e1]at f1 g1 h1
  rw [anb,aj5]at e2 e3
  obtain ⟨a,a0,a1,ha,hca,_⟩:=H.cmp f0 f1 g0 g1 e2
  obtain ⟨b,b0,b1,hb,hcb,_⟩:=H.cmp g0 g1 h0 h1 e3
  rw [aa6 f0 f1 g0 g1,aa6 g0 g1 h0 h1,hca,hcb,aa6 a0 a1 h0 h1,aa6 f0 f1 b0 b1]
  obtain ⟨u,u0,u1,hu,hcu,_⟩:=H.cmp a0 a1 h0 h1 (by rw [ha];exact e3)
  obtain ⟨v,v0,v1,hv,hcv,_⟩:=H.cmp f0 f1 b0 b1 (by rw [hb];exact e2)
  rw [hcu,hcv]
  refine H.inj u0 u1 v0 v1 ?_
  rw [hu,hv,ha,hb]
  dsimp only
  rw [List.append_assoc]
theorem bib {α:Type} [DecidableEq α]:∀ {a b:List α},a.Nodup->(∀ x ∈ a,x ∈ b)->a.length<=b.length
 | [],_,_,_=>Nat.zero_le _
 | x::a,b,h,hs=>by
  have h0:=List.nodup_cons.1 h
  have hx:=hs x (List.mem_cons_self ..)
  have hp:=(List.perm_cons_erase hx).length_eq
  have:=bib (b:=b.erase x) h0.2 fun y hy=>(List.mem_erase_of_ne (fun e=>h0.1 (by rw [← e];exact hy))).2 (hs y (List.mem_cons_of_mem _ hy))
  rw [hp,List.length_cons,List.length_cons];omega
theorem bc6 {p:Int->Bool}:∀ m:Nat,(qh m p).Nodup
 | 0=>List.nodup_nil
 | m+1=>by
  unfold qh
  split
  ·rw [List.nodup_append]
   refine ⟨bc6 m,by simp,fun x hx y hy=>?_⟩
   have:=(aml.1 hx).2.1
   rw [List.mem_singleton.1 hy];omega
  ·exact bc6 m
theorem AllP.idq (H:AllP n fr to l) {h:Int} (h0:0<=h) (h1:h < l.length):idR (qf n l (qy l)) h=true<->(pAt l h).2.2=[]:=by
 have hv:=H.at_ h0 h1
 obtain ⟨k,k0,k1,hk,hi⟩:=H.idt hv.1.1 hv.1.2
 unfold idR
 rw [aj5,hi,beq_iff_eq]
 constructor
 ·rintro rfl;rw [hk]
 ·intro e
  refine H.inj k0 k1 h0 h1 ?_
  rw [hk]
  have h2:=hv.2
  rw [e]at h2
  have h3:(pAt l h).1=(pAt l h).2.1:=Option.some.inj h2
  exact Prod.ext rfl (Prod.ext h3 e.symm)
theorem bon {x e z:Int} (h:zq fr to x [e]=some z):(0<=e/\e < fr.length)/\fr.getD e.toNat 0=x/\z=to.getD e.toNat 0:=by
 obtain ⟨y,q1,q2,q3,q4⟩:=as0 (show an5 fr to (some x) e=some z from h)
 cases q1
 exact ⟨q2,q3,q4⟩
theorem AllP.spl (H:AllP n fr to l) (hto:bn to n=true) (hl:to.length=fr.length) {h:Int} (h0:0<=h) (h1:h < l.length):aue (qf n l (qy l)) h=true<->2<=(pAt l h).2.2.length:=by
 have e1:(qf n l (qy l)).2.1.length=l.length:=List.length_map ..
 have hne:∀ {m:Int},0<=m->m < l.length->(idR (qf n l (qy l)) m=false<->1<=(pAt l m).2.2.length):=fun {m} m0 m1=>by
  have:=H.idq m0 m1
  cases hb:idR (qf n l (qy l)) m with
  | true=>rw [hb]at this;have:=this.1 rfl;rw [this];simp
  | false=>
   rw [hb]at this
   simp only [true_iff]
   rcases Nat.eq_zero_or_pos (pAt l m).2.2.length with h | h
   ·exact absurd (this.2 (List.eq_nil_of_length_eq_zero h)) (by simp)
   ·exact h
 unfold aue
 rw [e1,wo]
 constructor
 ·rintro ⟨f,f0,f1,hf⟩
  obtain ⟨g,g0,g1,hg⟩:=wo.1 hf
  simp only [spQ,Bool.and_eq_true,beq_iff_eq,Bool.not_eq_true']at hg
  obtain ⟨hc,hi,hj⟩:=hg
  rw [aa6 f0 f1 g0 g1]at hc
  by_cases e:(pAt l f).2.1=(pAt l g).1
  ·obtain ⟨k,k0,k1,hk,hck,_⟩:=H.cmp f0 f1 g0 g1 e
   have:k=h:=hck.symm.trans hc
   rw [← this,hk]
   have h2:=(hne f0 f1).1 hi
   have h3:=(hne g0 g1).1 hj
   rw [List.length_append];omega
  ·rw [bcq e]at hc;omega
 ·intro h2
  have hv:=H.at_ h0 h1
  cases hes:(pAt l h).2.2 with
  | nil=>rw [hes]at h2;simp at h2
  | cons e r=>
   rw [hes]at h2
   have hw:=hv.2
   rw [hes,show e::r=[e]++r from rfl]at hw
   cases h3:zq fr to (pAt l h).1 [e]with
   | none=>
    have h4:zq fr to (pAt l h).1 ([e]++r)=none:=by
     unfold zq at h3 ⊢;rw [List.foldl_append,h3];exact azj r
    rw [h4]at hw;cases hw
   | some y=>
    rw [be2 h3]at hw
    have hy:=bj3 hto hl 1 _ y [e] rfl hv.1.1 hv.1.2 h3
    obtain ⟨f,f0,f1,hf⟩:=H.ix hv.1.1 hv.1.2 h3
    obtain ⟨g,g0,g1,hg⟩:=H.ix hy.1 hy.2 hw
    refine ⟨f,f0,f1,wo.2 ⟨g,g0,g1,?_⟩⟩
    simp only [spQ,Bool.and_eq_true,beq_iff_eq,Bool.not_eq_true']
    refine ⟨?_,(hne f0 f1).2 (by rw [hf];simp),(hne g0 g1).2 (by rw [hg];simp only [List.length_cons]at h2;show 1<=r.length;omega)⟩
    rw [aa6 f0 f1 g0 g1]
    obtain ⟨k,k0,k1,hk,hck,_⟩:=H.cmp f0 f1 g0 g1 (by rw [hf,hg])
    rw [hck]
    refine H.inj k0 k1 h0 h1 ?_
    rw [hk,hf,hg]
    exact Prod.ext rfl (Prod.ext rfl hes.symm)
theorem AllP.irr (H:AllP n fr to l) (hfr:bn fr n=true) (hto:bn to n=true) (hl:to.length=fr.length):(apq (qf n l (qy l))).length=fr.length:=by
 have e1:(qf n l (qy l)).2.1.length=l.length:=List.length_map ..
 unfold apq
 rw [e1,apz (q:=fun h=>decide ((pAt l h).2.2.length=1)) fun h h0 h1=>?_]
 ·have hS:∀ {h:Int},h ∈ qh l.length (fun h=>decide ((pAt l h).2.2.length=1))->(0<=h/\h < l.length)/\∃ e:Int,(0<=e/\e < fr.length)/\pAt l h=(fr.getD e.toNat 0,to.getD e.toNat 0,[e]):=fun {h} hh=>by
   obtain ⟨h0,h1,h2⟩:=aml.1 hh
   have h2:=of_decide_eq_true h2
   obtain ⟨e,he⟩:=List.length_eq_one_iff.1 h2
   have hv:=(H.at_ h0 h1).2
   rw [he]at hv
   obtain ⟨q1,q2,q3⟩:=bon hv
   exact ⟨⟨h0,h1⟩,e,q1,Prod.ext q2.symm (Prod.ext q3 he)⟩
  have hmap:((qh l.length (fun h=>decide ((pAt l h).2.2.length=1))).map fun h=>(pAt l h).2.2.headD 0).Nodup:=by
   refine List.pairwise_map.2 ((bc6 l.length).imp_of_mem fun {a b} ha hb hab he=>hab ?_)
   obtain ⟨⟨a0,a1⟩,x,_,hx⟩:=hS ha
   obtain ⟨⟨b0,b1⟩,y,_,hy⟩:=hS hb
   rw [hx,hy]at he
   have he:x=y:=he
   subst he
   exact H.inj a0 a1 b0 b1 (hx.trans hy.symm)
  have l1:=bib (b:=ce fr.length fun e=>e) hmap fun x hx=>by
   obtain ⟨h,hh,rfl⟩:=List.mem_map.1 hx
   obtain ⟨_,e,he,hp⟩:=hS hh
   rw [hp]
   exact n7.2 ⟨e,he.1,he.2,rfl⟩
  have l2:=bib (b:=(qh l.length (fun h=>decide ((pAt l h).2.2.length=1))).map fun h=>(pAt l h).2.2.headD 0) (auu fr.length) fun x hx=>by
   obtain ⟨_,e0,e2,rfl⟩:=n7.1 hx
   have hf:=io.1 hfr x e0 e2
   obtain ⟨k,k0,k1,hk⟩:=H.ix (y:=to.getD x.toNat 0) (es:=[x]) hf.1 hf.2 (show an5 fr to (some _) x=some _ from bji e0 e2 rfl)
   exact List.mem_map.2 ⟨k,aml.2 ⟨k0,k1,by rw [hk];rfl⟩,by rw [hk];rfl⟩
  rw [List.length_map,c6]at l1 l2
  omega
 ·have a:=H.idq h0 h1
  have b:=H.spl hto hl h0 h1
  rw [Bool.eq_iff_iff]
  simp only [Bool.and_eq_true,Bool.not_eq_true',decide_eq_true_eq]
  constructor
  ·rintro ⟨h2,h3⟩
   have h4:¬ (pAt l h).2.2=[]:=fun h5=>by rw [a.2 h5]at h2;cases h2
   have h5:¬ 2<=(pAt l h).2.2.length:=fun h6=>by rw [b.2 h6]at h3;cases h3
   have h6:(pAt l h).2.2.length ≠ 0:=fun h7=>h4 (List.eq_nil_of_length_eq_zero h7)
   omega
  ·intro h2
   refine ⟨?_,?_⟩
   ·cases hb:idR (qf n l (qy l)) h with
    | false=>rfl
    | true=>rw [a.1 hb]at h2;simp at h2
   ·cases hb:aue (qf n l (qy l)) h with
    | false=>rfl
    | true=>have:=b.1 hb;omega
end
theorem biq (n:Int) (fr to:List Int):agh n fr to=zu n fr to/\((zu n fr to).2=0->m6 (zu n fr to).1=true/\(apq (zu n fr to).1).length=fr.length):=by
 unfold agh zu
 by_cases h1:fr.length=to.length
 ·rw [if_pos h1,if_pos h1]
  by_cases h2:(inR n 0 8 && bn fr n && bn to n)=true
  ·rw [if_pos h2,if_pos h2]
   by_cases h3:y9 n fr to=true
   ·rw [if_pos h3,if_pos h3];exact ⟨rfl,fun h=>by cases h⟩
   ·rw [if_neg h3,if_neg h3]
    simp only [Bool.and_eq_true,inR,decide_eq_true_eq]at h2
    have hperm:=(aef (u6 n fr to)).length_eq
    have hall:ig n fr to=yo (u6 n fr to):=rfl
    have hlen:(nq n fr to).2.1.length=(yo (u6 n fr to)).length:=by
     unfold nq;rw [hall];exact List.length_map ..
    have hob:(nq n fr to).1=n:=rfl
    by_cases h4:(u6 n fr to).length<=40
    ·have H:=(bml h4).sort
     have hr:il n fr to=((yo (u6 n fr to)).map jw,true):=by unfold il;rw [if_pos h4,bmk]
     have hp:nq n fr to=qf n (yo (u6 n fr to)) (qy (yo (u6 n fr to))):=by
      unfold nq bcp;rw [hall,if_pos H.m];rfl
     have hm:afq (nq n fr to)=(nq n fr to,0):=by
      unfold afq
      rw [if_pos]
      simp only [Bool.and_eq_true,decide_eq_true_eq]
      exact ⟨by rw [hob];omega,by rw [hlen];have:=H.m;omega⟩
     rw [hr,hm,hp]
     dsimp only
     rw [if_pos rfl]
     generalize yo (u6 n fr to)=l at *
     refine ⟨?_,fun _=>⟨H.cat h2.1.1.1 h2.1.1.2 h2.2 h1.symm,H.irr h2.1.2 h2.2 h1.symm⟩⟩
     have f1:(l.map jw).map (·.1.1)=l.map (·.1):=by rw [List.map_map];rfl
     have f2:(l.map jw).map (·.1.2)=l.map (·.2.1):=by rw [List.map_map];rfl
     have f3:aez (l.map jw) n (l.map jw).length=aau l n l.length:=by
      rw [List.length_map]
      unfold aez aau
      congr 1
      funext a k
      rw [au4];rfl
     have f4:af5 (atw n (l.map jw) []) (zr (l.map jw))=qy l:=by
      unfold af5 qy
      have e1:(atw n (l.map jw) []).2.1.length=l.length:=by show ((l.map jw).map _).length=_;rw [List.length_map,List.length_map]
      rw [e1]
      refine ep fun f g0 g1=>ep fun g h0 h1=>?_
      unfold aqn
      have e2:(atw n (l.map jw) []).2.2.1.getD f.toNat 0=(pAt l f).2.1:=by
       show ((l.map jw).map (·.1.2)).getD _ _=_
       rw [f2];exact at7 (g:=(·.2.1)) rfl
      have e3:(atw n (l.map jw) []).2.1.getD g.toNat 0=(pAt l g).1:=by
       show ((l.map jw).map (·.1.1)).getD _ _=_
       rw [f1];exact at7 (g:=(·.1)) rfl
      rw [e2,e3]
      by_cases e:(pAt l f).2.1=(pAt l g).1
      ·rw [if_pos e]
       obtain ⟨k,_,_,_,hc,hd⟩:=H.cmp g0 g1 h0 h1 e
       rw [hc,hd]
      ·rw [if_neg e,bcq e]
     unfold atw at f4 ⊢
     rw [f1,f2,f3]at f4 ⊢
     rw [f4]
     rfl
    ·have hr:il n fr to=([],false):=by unfold il;rw [if_neg h4]
     have hm:afq (nq n fr to)=(T.dflt bj,3):=by
      unfold afq
      rw [if_neg]
      simp only [Bool.and_eq_true,decide_eq_true_eq]
      rintro ⟨_,h⟩
      rw [hlen,hperm]at h
      omega
     rw [hr,hm]
     dsimp only
     rw [if_neg (by decide)]
     exact ⟨rfl,fun h=>by cases h⟩
  ·rw [if_neg h2,if_neg h2];exact ⟨rfl,fun h=>by cases h⟩
 ·rw [if_neg h1,if_neg h1];exact ⟨rfl,fun h=>by cases h⟩
def c_laws_FnPathsComposed:Ct:=⟨[(.sl (.int .u8))],[false],fun x=>[],[(false,(.fz .bool))],fun x=>(true,()),false,none⟩
def ab0:Ann:=(.s .n (.s .n (.s .n (.s .n (.s .n (.s .n (.s (.s .n (.j [] [] [0] .n)) .n)))))))
def ab1:FuncId->Option Ct:=lkp [(13,ag1),(30,ii),(35,fm),(36,lj),(32,jn),(28,gh),(7,tm),(34,gz),(12,acb),(31,nu),(27,mw),(33,jj),(29,gj)]
def rg (code:List Int) (K:Bool×Unit->Prop):Prop:=(cnd (decide (4096 < ((code.length:Nat):Int))) (K (true,())) (cnd (((ed (az code) (bg code) (ak code)).2 != (ed (az code) (bg code) (ak code)).2) || ((ed (az code) (bg code) (ak code)).1 != (ed (az code) (bg code) (ak code)).1)) (K (false,())) (fk (S:=(Unit×Unit)) (fun s=>(((List.length (cr code))<=1000000000)/\(((List.length (cr code))<=1000000000)/\(cnd (((agh (d8 code) (cr code) (d9 code)).2 != (zu (d8 code) (cr code) (d9 code)).2) || (!(eqR bj (agh (d8 code) (cr code) (d9 code)).1 (zu (d8 code) (cr code) (d9 code)).1))) (K (false,())) (cnd ((agh (d8 code) (cr code) (d9 code)).2 != 0) (K (true,())) (K (((((anh (zu (d8 code) (cr code) (d9 code)).1).2 == 0) && ((((List.length (anh (zu (d8 code) (cr code) (d9 code)).1).1):Nat):Int) == (((List.length (cr code)):Nat):Int))) && (m6 (zu (d8 code) (cr code) (d9 code)).1)),()))))))) (fun k=>(cnd ((ed (az code) (bg code) (ak code)).2 == 0) ((inK .i64 ((((List.length (ak code)):Nat):Int)+1))/\((0<=(cg code 201).2.1)/\((0<=(bh (cg code 201) ((((List.length (ak code)):Nat):Int)+1)))/\(((bh (cg code 201) ((((List.length (ak code)):Nat):Int)+1))<=(((List.length (ak code)):Nat):Int))/\((0<=(bh (cg code 201) ((((List.length (ak code)):Nat):Int)+1)))/\(((bh (cg code 201) ((((List.length (ak code)):Nat):Int)+1))<=(((List.length (ak code)):Nat):Int))/\(cnd (((ed (az code) (bg code) (List.take (Int.toNat (bh (cg code 201) ((((List.length (ak code)):Nat):Int)+1))) (ak code))).2 != 0) || ((ed (az code) (bg code) (List.take (Int.toNat (bh (cg code 201) ((((List.length (ak code)):Nat):Int)+1))) (ak code))).1 != (ed (az code) (bg code) (List.take (Int.toNat (bh (cg code 201) ((((List.length (ak code)):Nat):Int)+1))) (ak code))).1)) (K (false,())) ((0<=(ed (az code) (bg code) (List.take (Int.toNat (bh (cg code 201) ((((List.length (ak code)):Nat):Int)+1))) (ak code))).1)/\(((ed (az code) (bg code) (List.take (Int.toNat (bh (cg code 201) ((((List.length (ak code)):Nat):Int)+1))) (ak code))).1 < (((List.length (az code).2.2.1):Nat):Int))/\((0<=(bh (cg code 201) ((((List.length (ak code)):Nat):Int)+1)))/\(((bh (cg code 201) ((((List.length (ak code)):Nat):Int)+1))<=(((List.length (ak code)):Nat):Int))/\((0<=(ed (az code) (bg code) (List.take (Int.toNat (bh (cg code 201) ((((List.length (ak code)):Nat):Int)+1))) (ak code))).1)/\(((ed (az code) (bg code) (List.take (Int.toNat (bh (cg code 201) ((((List.length (ak code)):Nat):Int)+1))) (ak code))).1 < (((List.length (az code).2.2.1):Nat):Int))/\((0<=(bh (cg code 201) ((((List.length (ak code)):Nat):Int)+1)))/\(((bh (cg code 201) ((((List.length (ak code)):Nat):Int)+1))<=(((List.length (ak code)):Nat):Int))/\(cnd (((ed (az code) (List.getD (az code).2.2.1 (Int.toNat (ed (az code) (bg code) (List.take (Int.toNat (bh (cg code 201) ((((List.length (ak code)):Nat):Int)+1))) (ak code))).1) 0) (List.drop (Int.toNat (bh (cg code 201) ((((List.length (ak code)):Nat):Int)+1))) (ak code))).2 != 0) || ((ed (az code) (List.getD (az code).2.2.1 (Int.toNat (ed (az code) (bg code) (List.take (Int.toNat (bh (cg code 201) ((((List.length (ak code)):Nat):Int)+1))) (ak code))).1) 0) (List.drop (Int.toNat (bh (cg code 201) ((((List.length (ak code)):Nat):Int)+1))) (ak code))).1 != (ed (az code) (List.getD (az code).2.2.1 (Int.toNat (ed (az code) (bg code) (List.take (Int.toNat (bh (cg code 201) ((((List.length (ak code)):Nat):Int)+1))) (ak code))).1) 0) (List.drop (Int.toNat (bh (cg code 201) ((((List.length (ak code)):Nat):Int)+1))) (ak code))).1)) (K (false,())) (cnd (((aho (az code) (ed (az code) (bg code) (List.take (Int.toNat (bh (cg code 201) ((((List.length (ak code)):Nat):Int)+1))) (ak code))).1 (ed (az code) (List.getD (az code).2.2.1 (Int.toNat (ed (az code) (bg code) (List.take (Int.toNat (bh (cg code 201) ((((List.length (ak code)):Nat):Int)+1))) (ak code))).1) 0) (List.drop (Int.toNat (bh (cg code 201) ((((List.length (ak code)):Nat):Int)+1))) (ak code))).1).2 != 0) || ((aho (az code) (ed (az code) (bg code) (List.take (Int.toNat (bh (cg code 201) ((((List.length (ak code)):Nat):Int)+1))) (ak code))).1 (ed (az code) (List.getD (az code).2.2.1 (Int.toNat (ed (az code) (bg code) (List.take (Int.toNat (bh (cg code 201) ((((List.length (ak code)):Nat):Int)+1))) (ak code))).1) 0) (List.drop (Int.toNat (bh (cg code 201) ((((List.length (ak code)):Nat):Int)+1))) (ak code))).1).1 != (ed (az code) (bg code) (ak code)).1)) (K (false,())) (k ((),()))))))))))))))))))) (k ((),())))))))
theorem aks (x:bi c_laws_FnPathsComposed.args) (K:Bool×Unit->Prop):evF tab ab1 (aw [(16,14),(11,10),(12,10),(15,14)]) Try.f6 (aj Try.f6) ab0 c_laws_FnPathsComposed x K=rg x.1 K:=by kernel_rfl
theorem akm:okC Try.f6.ntmps (aw [(16,14),(11,10),(12,10),(15,14)]) (aj Try.f6)=true:=by kernel_rfl
theorem akp (code:List Int) (hok:ae (okL c_laws_FnPathsComposed.args (code,()))) (hpre:ae (c_laws_FnPathsComposed.pre (code,()))):rg code (fun r=>r=c_laws_FnPathsComposed.res (code,())):=by
 simp only [c_laws_FnPathsComposed,okL,T.oks,T.ok,ap,ae,true_and,and_true,implies_true]at hok hpre
 try dsimp only [T.den]at hok
 try dsimp only [T.den]at hpre
 unfold rg
 have hq1:=(aic code (by simpa only [dp,okL,T.oks,T.ok,ap,ae,true_and,and_true,implies_true]using hok) trivial).2
 have hq2:=(aja code (by simpa only [d4,okL,T.oks,T.ok,ap,ae,true_and,and_true,implies_true]using hok) trivial).2
 have hR:=bpq (code:=code) (seed:=201) (by simpa only [T.oks,T.ok,ap,ae,true_and,and_true,implies_true]using hok) (by rw [bmj];omega)
 clear hok
 simp only [c_laws_FnPathsComposed]
 unfold lp at hq1
 unfold l9 at hq2
 generalize az code=c at *
 generalize bg code=x at *
 generalize ak code=p at *
 generalize d8 code=n at *
 generalize cr code=fr at *
 generalize d9 code=to at *
 generalize cg code 201=d at *
 have hb:=bom (d:=d) (n:=(p.length:Int)+1) hR (by rw [au];(try dsimp only);omega)
 obtain ⟨_,b0,b1⟩:=hb
 have b1:=b1 (by omega)
 generalize bh d ((p.length:Int)+1)=k at *
 obtain ⟨e1,e2⟩:=biq n fr to
 refine be (fun _=>trivial) (fun _=>?_)
 refine be (fun h=>by simp at h) (fun _=>?_)
 refine dn (fun _=>True) (fun s _=>?_) (fun k2 hk2=>?_)
 ·refine ⟨by omega,by omega,?_⟩
  rw [e1]
  refine be (fun h=>by simp at h) (fun _=>be (fun _=>trivial) (fun h0=>?_))
  have h0:(zu n fr to).2=0:=bne_eq_false_iff_eq.1 h0
  obtain ⟨g1,g2⟩:=e2 h0
  unfold anh
  rw [if_pos g1]
  simp only [g1,g2]
  simp
 ·refine be (fun h=>?_) (fun _=>hk2 _ trivial)
  have h:(ed c x p).2=0:=eq_of_beq h
  obtain ⟨c1,c2,c3,c4⟩:=bpg (k:=k.toNat) h
  refine ⟨by rw [au];(try dsimp only);omega,hR.2,b0,by omega,b0,by omega,be (fun hh=>?_) (fun _=>⟨c2.1,c2.2,b0,by omega,c2.1,c2.2,b0,by omega,be (fun hh=>?_) (fun _=>be (fun hh=>?_) (fun _=>hk2 _ trivial))⟩)⟩
  ·rw [c1]at hh;simp at hh
  ·rw [c3]at hh;simp at hh
  ·rw [c4]at hh;simp at hh
theorem ct_laws_FnPathsComposed:dg Try.prog 6 c_laws_FnPathsComposed:=
 d7 (Φ:=ab1) (am apt (am aop (am ahs (am aoy (am anc (am ak8 (am bd9 (am ajf (am bcl (am aim (am ahh (am am1 (am amj ba))))))))))))) bo (by kernel_rfl) (fn:=Try.f6) (c:=aj Try.f6) (by kernel_rfl) (by kernel_rfl) (by kernel_rfl) c_laws_FnPathsComposed rfl ab0 (aw [(16,14),(11,10),(12,10),(15,14)]) (by kernel_rfl) (by kernel_rfl) akm (by decide) (fun x K=>rg x.1 K) aks (fun x h1 h2=>akp x.1 h1 h2)
end
end Go.Bm
