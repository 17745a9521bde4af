/- The typed machine that the walks of this claim go by: its data, its operations and the proof that each is sound. No condition. -/
import Derived.Test.YtpmjngfhnebmaaaGreatDoorBmSix
import Derived.Shelf.SlSortCmp.NoneTotal
set_option linter.unusedVariables false
set_option linter.unusedSimpArgs false
set_option linter.unusedSectionVars false
namespace Go.Bm
open Go.RowKit
abbrev qp:=@List.get_mem
abbrev Ce:=@decide_eq_false
abbrev Cf:=@List.pairwise_map
abbrev Gl:=@List.pairwise_iff_getElem
abbrev Gm:=@Array.getElem_toList
variable {F cur:lP}{P:d4}{a:T}{b g i k m n off:Nat}{cs:eT}{e:O}{ety:bW}{fr:Nat×Nat}{os:Array Obj}{w:aK}{α:Type}{ρ:Shelf.Ren}
structure SwoR {α:Type} (cmp:α->α->Int) (x:List α):Prop where
 irrefl:∀a∈x,¬cmp a a<0
 trans:∀a∈x,∀b∈x,∀c∈x,cmp a b<0->cmp b c<0->cmp a c<0
 ntrans:∀a∈x,∀b∈x,∀c∈x,¬cmp a b<0->¬cmp b c<0->¬cmp a c<0
def cfN(cmp:α->α->Int)(x:List α)(i j:Fin x.length):Int:=cmp (x.get i) (x.get j)
theorem FO{cmp:α->α->Int}{x:List α}(h:SwoR cmp x):Sort.SWO (Proofs.ltOf (cfN cmp x)):={
 irrefl:=λi=>by have:=h.irrefl _ (qp x i);exact Ce this
 trans:=λi j k h1 h2=>by exact decide_eq_true (h.trans _ (qp x i) _ (qp x j) _ (qp x k) (w6 h1) (w6 h2))
 ntrans:=λi j k h1 h2=>by exact Ce (h.ntrans _ (qp x i) _ (qp x j) _ (qp x k) (Cd h1) (Cd h2)) }
@[reducible] def yy {n:Nat} (h:0<n):Inhabited (Fin n):=⟨⟨0,h⟩⟩
def idN(n:Nat):Array (Fin n):=Array.ofFn λi=>i
def pL(cmp:α->α->Int)(x:List α):List α:=
 if h:0<x.length then
  letI:=yy h
  (Sort.pdq (Proofs.ltOf (cfN cmp x)) (idN x.length) 0 x.length (Lib.bitLen x.length) true true).toList.map x.get
 else x
theorem lZ(n:Nat):(idN n).size=n:=by simp[idN]
theorem Qh:(idN n).toList=List.finRange n:=by unfold idN List.finRange;rw[Array.toList_ofFn]
theorem ab4(x:List α):(List.finRange x.length).map x.get=x:=by
 unfold List.finRange;apply List.ext_getElem
 ·simp
 ·intro i h1 h2;simp
theorem J'{cmp:α->α->Int}{x:List α}(h:SwoR cmp x):(pL cmp x).Perm x:=by
 unfold pL;split
 ·rename_i hn
  letI:=yy hn
  have hs:=Sort.pdq_sorts (Proofs.ltOf (cfN cmp x)) (FO h) (idN x.length) 0 x.length (Lib.bitLen x.length) true true (dO _) (by rw[lZ];exact aZ _) (Or.inl rfl);obtain⟨⟨h1,_,h3⟩,_⟩:=hs
  have e1:(idN x.length).extract 0 x.length=idN x.length:=by
   have:=(idN x.length).extract_size
   rwa [lZ]at this
  rw[lZ]at h1;rw[e1,Qh]at h3
  have e2:∀d:Array (Fin x.length),d.size=x.length->d.extract 0 x.length=d:=λd hd=>by
   have:=d.extract_size
   rwa [hd]at this
  rw[e2 _ h1]at h3;have:=h3.map x.get;rw[ab4]at this;exact this
 ·exact List.Perm.refl _
theorem Zg{cmp:α->α->Int}{x:List α}(h:SwoR cmp x):(pL cmp x).Pairwise λa b=>¬cmp b a<0:=by
 unfold pL;split
 ·rename_i hn
  letI:=yy hn
  have hs:=Sort.pdq_sorts (Proofs.ltOf (cfN cmp x)) (FO h) (idN x.length) 0 x.length (Lib.bitLen x.length) true true (dO _) (by rw[lZ];exact aZ _) (Or.inl rfl);obtain⟨⟨h1,_,_⟩,h4⟩:=hs;rw[lZ]at h1;rw[Cf,Gl];intro i j hi hj hij;rw[ld]at hi hj;have:=h4 i j (dO _) hij aa;rw[getElem!_pos _ i hi,getElem!_pos _ j hj]at this;exact Cd this
 ·rename_i hn;have:x=[]:=iS aa;subst this;exact List.Pairwise.nil
theorem aa0[Inhabited α]{enc:α->List Value}(hk:∀x,(enc x).length=k)(d:Array α)(hi:i<d.size):(((Sort.flatK enc k d).toList.drop (i*k)).take k)=enc d[i]!:=by
 apply lR;intro j;rw[g7];split
 ·rename_i hj;have hle:(i+1)*k<=d.size*k:=kw k hi;rw[jk,Nat.one_mul]at hle;have lt:i*k+j<d.size*k:=aa
  rw[g8,qv,rT (by rw[Sort.size_flatK];exact lt)];have h:=Sort.get_flatK enc k d (i*k+j) lt;rw[getElem!_pos (Sort.flatK enc k d) _ (by rw[Sort.size_flatK];exact lt)]at h;have e1:(i*k+j) / k=i:=(Sort.blk_iff k i _ aa).1 ⟨aa,aa⟩;have e2:(i*k+j)%k=j:=by rw[Nat.mod_eq_sub_div_mul,e1];omega
  rw[h,e1,e2,getElem!_pos (enc d[i]!) j (by rw[hk];exact hj)];exact (bX _).symm
 ·rw[jj (by rw[hk];omega)]
theorem Ea[Inhabited α]{enc:α->List Value}{d:Array α}(h:w.heap[g]? = some (.cells cur ety fr))(hb:b<w.heap.size):
  (Proofs.sortWorldK enc k w g off m d os).heap[b]? = if b=g then some (.cells (Sort.putCells id off (Sort.flatK enc k d) cur) ety fr)else w.heap[b]?:=by
 unfold Proofs.sortWorldK Sort.grow Sort.putRowK Sort.putRow Sort.mapBlock Sort.ahead;rw[Array.getElem?_append,am (by simpa using hb),Array.getElem?_modify];by_cases e:b=g
 ·subst e;rw[am rfl,am rfl,h];rfl
 ·rw[ai (dg e),ai e]
theorem JS[Inhabited α]{enc:α->List Value}{d:Array α}:w.heap.size<=(Proofs.sortWorldK enc k w g off m d os).heap.size:=by unfold Proofs.sortWorldK Sort.grow Sort.putRowK Sort.putRow Sort.mapBlock Sort.ahead;simp
theorem aam(h:off+F.size<=cur.size):((Sort.putCells id off F cur).toList.drop off).take F.size=F.toList:=by
 apply lR;intro j;rw[g7];split
 ·rename_i hj;rw[g8,qv];unfold Sort.putCells;rw[Array.getElem?_mapIdx,rT aa];simp only[dX];rw[am aa,show off+j-off=j by omega,qv,rT hj,getElem!_pos F j hj];rfl
 ·rw[qv,Co aa]
theorem I_:(Sort.putCells id off F cur).size=cur.size:=by simp[Sort.putCells]
def vR:List T->T
 |[]=>.u
 |c::r=>.p c (vR r)
def oG:(cs:eT)->(vR cs).den->bo cs
 |[],_=>()
 |_::r,x=>(x.1,oG r x.2)
theorem S6{Im:aT}{w:aK}:(cs:eT)->(h:∀c∈cs,c.size=1)->(x:(vR cs).den)->(us:aJ)->ah Im w (vR cs) x us->dL Im w (ou cs) cs (oG cs x) us
 |[],_,_,us,h=>by simp only[vR,ah]at h;exact h
 |c::r,hc,x,us,h=>by simp only[vR,ah]at h;obtain⟨va,vb,h1,h2,h3⟩:=h;have hl:=ah.len c x.1 va h2;rw[hc c ak]at hl;obtain⟨v,rfl⟩:=Cm.1 hl;exact⟨v,vb,[v],h1,(λh=>by cases h),λ_=>rfl,h2,S6 r (λc' hc'=>hc c' (by simp[hc'])) x.2 vb h3⟩
theorem Jr{A B:aT}{w w':aK}(h:cN A B w w'):(gs:fw)->(ts:eT)->(x:bo ts)->(us:aJ)->dL A w gs ts x us->dL B w' gs ts x us
 |[],[],_,_,r=>r
 |g::gs,t::ts,x,us,r=>by obtain⟨u,us',vs,h1,h2,h3,h4,h5⟩:=r;exact⟨u,us',vs,h1,h2,h3,ah.keep h t x.1 vs h4,Jr h gs ts x.2 us' h5⟩
 |[],_::_,_,_,r|_::_,[],_,_,r=>r.elim
theorem aai{w':aK}(h:Ext w w'):∃q os,w'=Sort.grow (w.drewN q) os:=by
 refine⟨w'.drawn-w.drawn,w'.heap.extract w.heap.size w'.heap.size,?_⟩;have h1:=h.tape.d;obtain⟨hp,tp,dr,os,out⟩:=w';obtain⟨hp0,tp0,dr0,os0,out0⟩:=w;have e1:=h.os;have e2:=h.tape.t;have e3:=h.output;have e4:=h.size;have e5:=h.old;dsimp only at e1 e2 e3 e4 e5 h1;subst e1;subst e2;subst e3;unfold Sort.grow World.drewN;simp only[World.mk.injEq,aA,aL];refine⟨?_,aa⟩;apply Array.ext_getElem?;intro i;rw[Array.getElem?_append];split
 ·rename_i hi;exact e5 i hi
 ·rename_i hi;rw[Array.getElem?_extract];split
  ·congr 1;omega
  ·rw[Co aa]
def aff(a:T)(g:bC)(cs:eT)(pre:bo (a::a::cs)->List Prop)(res:bo (a::a::cs)->bV [(false,O.fz (.int .i64))]):Ct:=⟨a::a::cs,g::g::ou cs,pre,[(false,.fz (.int .i64))],res,false,none⟩
def PreR(pre:bo (a::a::cs)->List Prop)(x:List a.den)(y:bo cs):Prop:=∀p∈x,∀q∈x,ab (pre (p,(q,y)))
def vQ(res:bo (a::a::cs)->bV [(false,O.fz (.int .i64))])(y:bo cs)(p q:a.den):Int:=(res (p,(q,y))).1
def BM(e:O)(g:gp)(cs:eT)(pre:bo (e.strip::e.strip::cs)->List Prop)(res:bo (e.strip::e.strip::cs)->bV [(false,O.fz (.int .i64))]):Wt:=⟨.sl e,[.fn g (vR cs)],[false],λx y=>[PreR pre x (oG cs y.1),SwoR (vQ res (oG cs y.1)) x],λx y=>pL (vQ res (oG cs y.1)) x,[],λ_ _=>(),0⟩
theorem aaq{A S:aT}{x:List e.strip.den}{xs cur:aJ}{ety c:Nat}{T:y9}[Inhabited (Fin x.length)](hA:∀b,A b->b<w.heap.size)(hS:∀b,S b->b<w.heap.size/\¬A b)(hx:xs.length=x.length*e.size)(hg:w.heap[g]? = some (.cells cur.toArray ety (0,0)))(hn:x.length<=c+1)(hc:c+1<=maxLen)(hcs:cur.length=off+(c+1)*e.size)(hnb:x.length<=nb)(hr:S g)(hT:∀i b,T i b->S b/\b≠g)(hTd:∀i j b,i≠j->T i b->¬T j b)(hrow:∀(i:Nat)(y:e.strip.den),x[i]? = some y->Rel A w e y (T i) ((xs.drop (i*e.size)).take e.size)){enc:Fin x.length->List Value}(henc:∀i,enc i=(xs.drop (i.1*e.size)).take e.size){d:Array (Fin x.length)}(hd:d.size=x.length)(hnd:d.toList.Nodup):
  ExtS w (Proofs.sortWorldK enc e.size w g off m d os) S/\Rel (λb=>b<(Proofs.sortWorldK enc e.size w g off m d os).heap.size/\(A b\/S b\/w.heap.size<=b)/\¬S b/\¬False) (Proofs.sortWorldK enc e.size w g off m d os) (.sl e) (d.toList.map x.get) S [.slice (some ⟨g,off,none⟩) x.length (c+1)]:=by
 have hlen:∀i,(enc i).length=e.size:=λi=>by rw[henc,ez,iz,hx];have:=kw e.size (show i.1+1<=x.length from i.2);rw[jk,Nat.one_mul]at this;omega
 have hgl:=(eF.1 hg).1;have hheap:∀b,b<w.heap.size->b≠g->(Proofs.sortWorldK enc e.size w g off m d os).heap[b]? = w.heap[b]?:=λb hb hne=>by rw[Ea hg hb,ai hne]
 have hFs:(Sort.flatK enc e.size d).size=x.length*e.size:=by rw[Sort.size_flatK,hd]
 have hcl:cur.toArray.size=cur.length:=ak
 have hll:(d.toList.map x.get).length=x.length:=by rw[d5];exact Array.length_toList.trans hd
 have hmul:=kw e.size hn;refine⟨⟨rfl,⟨rfl,Nat.le_add_right _ _⟩,rfl,JS,λb hb hnS=>hheap b hb (λe=>hnS (e▸hr))⟩,?_⟩;simp only[Rel];refine⟨_,ety,(Sort.flatK enc e.size d).toList,λi b=>∃h:i<d.size,T (d[i]).1 b,rfl,⟨?_,.inr ⟨g,off,c,Sort.putCells id off (Sort.flatK enc e.size d) cur.toArray,?_,?_,?_,hc,?_,?_⟩⟩,?_,?_,?_,?_,?_⟩
 ·rw[ld,hFs,hll]
 ·rw[hll]
 ·rw[Ea hg hgl,am rfl]
 ·rw[hll];exact hn
 ·rw[I_,hcl,hcs]
 ·rw[hll,←hFs];exact aam (by rw[hFs,hcl,hcs];omega)
 ·rw[hll];exact hnb
 ·intro b hb;simp only[dI,aG]at hb;exact hb▸hr
 ·rintro i b ⟨_,hb⟩;obtain⟨h1,h2⟩:=hT _ _ hb;refine⟨h1,λe=>h2 ?_⟩;simp only[dI,aG]at e;exact e.symm
 ·rintro i j b hij ⟨hi,hb⟩ ⟨hj,hb'⟩;refine hTd _ _ b (λhe=>hij ?_) hb hb';have h1:d[i]=d[j]:=Fin.ext he;have hi':i<d.toList.length:=by rw[ld];exact hi
  have hj':j<d.toList.length:=by rw[ld];exact hj
  exact (List.getElem_inj (h₀:=hi') (h₁:=hj') hnd).1 (by rw[Gm,Gm];exact h1)
 ·intro i y hy
  have hi:i<d.size:=by
   have:=(gN.1 hy).1
   rwa [d5,ld]at this
  have hyv:y=x.get d[i]:=by have:=(gN.1 hy).2;rw[List.getElem_map,Gm]at this;exact this.symm
  have hTi:(λb=>∃h:i<d.size,T (d[i]).1 b)=T (d[i]).1:=funext λb=>propext ⟨λ⟨_,h⟩=>h,λh=>⟨hi,h⟩⟩;show Rel _ _ e y (λb=>∃h:i<d.size,T (d[i]).1 b) _;rw[hTi,aa0 hlen d hi,getElem!_pos d i hi,henc,hyv];refine Rel.keep (w:=w) (Im:=A) (λb hb=>⟨⟨iA (hA b hb) JS,.inl hb,λh=>(hS b h).2 hb,λh=>h⟩,hheap b (hA b hb) (λe=>(hS g hr).2 (e▸hb))⟩) e _ _ _ (λb hb=>?_) (hrow _ _ (bX _));obtain⟨h1,h2⟩:=hT _ _ hb;exact hheap b (hS b h1).1 h2
theorem e_(n:Nat):(List.finRange n).Nodup:=by unfold List.Nodup List.finRange;rw[Gl];intro i j hi hj hij;simp only[List.getElem_ofFn,ne_eq,Fin.mk.injEq];omega
theorem g_{cmp:α->α->Int}{x:List α}(h:SwoR cmp x)(hn:0<x.length):letI:=yy hn
  (Sort.pdq (Proofs.ltOf (cfN cmp x)) (idN x.length) 0 x.length (Lib.bitLen x.length) true true).size=x.length/\(Sort.pdq (Proofs.ltOf (cfN cmp x)) (idN x.length) 0 x.length (Lib.bitLen x.length) true true).toList.Nodup:=by
 letI:=yy hn
 have hs:=Sort.pdq_sorts (Proofs.ltOf (cfN cmp x)) (FO h) (idN x.length) 0 x.length (Lib.bitLen x.length) true true (dO _) (by rw[lZ];exact aZ _) (Or.inl rfl);obtain⟨⟨h1,_,h3⟩,_⟩:=hs;rw[lZ]at h1
 have e2:∀d:Array (Fin x.length),d.size=x.length->d.extract 0 x.length=d:=λd hd=>by
  have:=d.extract_size
  rwa [hd]at this
 rw[e2 _ (lZ _),e2 _ h1,Qh]at h3;exact⟨h1,h3.nodup_iff.2 (e_ _)⟩
theorem acq[Inhabited (Fin n)](h:i<n):(idN n)[i]! = ⟨i,h⟩:=by rw[getElem!_pos (idN n) i (by rw[lZ];exact h)];simp[idN]
theorem UM[Inhabited α](enc:α->Value)(d:Array α):Sort.flatK (λx=>[enc x]) 1 d=d.map enc:=by
 apply Array.ext
 ·simp
 ·intro i h1 h2;have hi:i<d.size:=by simpa using h2
  have:=Sort.get_flatK (λx=>[enc x]) 1 d i aa;rw[getElem!_pos _ i h1]at this;rw[this,Array.getElem_map,Nat.div_one,Nat.mod_one,getElem!_pos d i hi];rfl
theorem put1[Inhabited α](enc:α->Value)(off:Nat)(d:Array α)(c:lP):Sort.putCells enc off d c=Sort.putCells id off (d.map enc) c:=by
 unfold Sort.putCells;congr 1
 funext k x
 rw[yQ];split
 ·rename_i h;have hk:k-off<d.size:=aa
  rw[getElem!_pos d _ hk,getElem!_pos (d.map enc) _ (by rw[yQ];exact hk),Array.getElem_map];rfl
 ·rfl
theorem ad7[Inhabited α](enc:α->Value){d:Array α}:Proofs.sortWorld enc w g off m d os=Proofs.sortWorldK (λx=>[enc x]) 1 w g off m d os:=by unfold Proofs.sortWorld Proofs.sortWorldK Sort.putRowK Sort.putRow;rw[UM];have:Sort.putCells enc off d=Sort.putCells id off (d.map enc):=funext λc=>put1 enc off d c;rw[this]
theorem s_[Inhabited α]{enc:α->Value}{d:Array α}(h:Sort.HoldsK (λx=>[enc x]) 1 w g off d):Sort.Holds enc w g off d:=by unfold Sort.HoldsK at h;rw[UM]at h;intro j hj;have:=h j (by rw[yQ];exact hj);rw[getElem!_pos (d.map enc) _ (by rw[yQ];exact hj),Array.getElem_map]at this;rw[getElem!_pos d j hj];exact this
theorem aau(L:Proofs.SlLaysF.n6 P ρ)(e:O)(e1:e.size=1)(hcall:D2 P (ρ.f 6)){g:gp}{pre:bo (e.strip::e.strip::cs)->List Prop}{res:bo (e.strip::e.strip::cs)->bV [(false,O.fz (.int .i64))]}(hcs:∀c∈cs,c.size=1)(hg:aN P g (aff e.strip false cs pre res)):aN P (ρ.f 6) (iO (BM e g cs pre res)):=by
 refine⟨hcall,?_⟩;intro A w u (x:List e.strip.den) us y S hE hA hS hRel hArg hPre;obtain⟨hp,hs,_⟩:=hPre;obtain⟨u1,us',vs,rfl,_,hv,hF,hnil⟩:=hArg;have hnil:us'=[]:=hnil;subst hnil;rw[hv rfl]at hF;simp only[ah]at hF;obtain⟨cv,hcv,hcF⟩:=hF;simp only[bH,aA]at hcv;subst hcv;simp only[BM,Rel]at hRel;obtain⟨v,ety,xs,T,h1,h2,h3,h4,h5,h6,h7⟩:=hRel;simp only[bH,aA]at h1;subst h1;by_cases hn:x.length=0
 ·have hx:x=[]:=iS hn;subst hx
  obtain⟨q,cap,rfl⟩:∃q cap,u=.slice q 0 cap:=by
   rcases h2.2 with⟨_,oa,rfl⟩|⟨g0,off,c,cur,rfl,_⟩
   ·exact⟨_,_,rfl⟩
   ·exact⟨_,_,rfl⟩
  refine (Proofs.AnyF.slices_SortFunc_none { L with } q cap (.func (.func g) #[] cv.toArray) w).mono ?_;rintro e' w' ⟨rfl,rfl⟩;refine⟨[],λ_=>False,S,rfl,⟨rfl,⟨rfl,aZ _⟩,rfl,aZ _,λ_ _ _=>rfl⟩,λ_ h=>h.elim,λb hb=>⟨.inl hb,λh=>h⟩,?_,rfl⟩;have hnew:(BM e g cs pre res).new [] y=[]:=by show pL (vQ res (oG cs y.1)) []=[];unfold pL;rw[dif_neg ak]
  rw[hnew];simp only[BM,Rel];exact⟨_,ety,xs,T,rfl,h2,h3,h4,h5,h6,λi y hy=>by simp at hy⟩
 ·have hpos:0<x.length:=aa
  letI:=yy hpos
  rcases h2 with⟨hxl,⟨h0,_⟩|⟨g0,off,c,cur,rfl,k1,k2,k3,k4,k5⟩⟩
  ·exact absurd h0 hn
  have hgl:=(eF.1 k1).1;have hr:S g0:=h4 g0 rfl;have hT:∀i b,T i b->S b/\b≠g0:=λi b hb=>⟨(h5 i b hb).1,λe=>(h5 i b hb).2 (by rw[e];rfl)⟩;let enc:Fin x.length->List Value:=λi=>(xs.drop (i.1*e.size)).take e.size
  have hrow:∀i:Fin x.length,Rel A w e (x.get i) (T i.1) (enc i):=λi=>h7 i.1 _ (bX _);have hk:∀i,(enc i).length=e.size:=λi=>Rel.len _ _ _ _ (hrow i);have hxl1:xs.length=x.length:=by rw[hxl,e1,yJ]
  let enc1:Fin x.length->Value:=λi=>xs.getD i.1 undef
  have hen:enc=λi=>[enc1 i]:=funext λi=>by
   have hi:i.1<xs.length:=by rw[hxl1];exact i.2
   have h1:(xs.drop i.1).take 1=[xs[i.1]]:=by rw[yT hi];rfl
   simp only[enc,enc1,e1,yJ,h1,bN,bX hi,dY]
  have hsw:∀m dk os,Proofs.sortWorld enc1 w g0 off m dk os=Proofs.sortWorldK enc e.size w g0 off m dk os:=λm dk os=>by rw[hen,e1];exact ad7 enc1
  have hone:∀i,∀v∈enc i,v.oneCell'=true:=λi=>Rel.one _ _ _ _ (hrow i);have hA':∀b,(A b\/S b/\b≠g0)->b<w.heap.size/\b≠g0:=λb hb=>hb.elim (λh=>⟨hA b h,λe=>(hS g0 hr).2 (e▸h)⟩) λh=>⟨(hS b h.1).1,h.2⟩
  have hcmp:Proofs.CmpLays1 P g cv.toArray enc1 (cfN (vQ res (oG cs y.1)) x) g0 off (idN x.length).size w:=by
   intro m os dk hdk i j;rw[hsw];have hKeep:cN (λb=>A b\/S b/\b≠g0) (λb=>A b\/S b/\b≠g0) w (Proofs.sortWorldK enc e.size w g0 off m dk os):=λb hb=>⟨hb,by obtain⟨q1,q2⟩:=hA' b hb;rw[Ea k1 q1,ai q2]⟩;have harg:∀i:Fin x.length,ah (λb=>A b\/S b/\b≠g0) (Proofs.sortWorldK enc e.size w g0 off m dk os) e.strip (x.get i) (enc i):=λi=>ah.keep hKeep _ _ _ (Rel.frz (λb hb=>.inl hb) e _ _ _ (λb hb=>.inr (hT _ b hb)) (hrow i))
   have hc:=hg.2 (λb=>A b\/S b/\b≠g0) (Proofs.sortWorldK enc e.size w g0 off m dk os) (enc1 i::enc1 j::cv) (x.get i,(x.get j,oG cs y.1)) (hE.of λb hb _=>⟨.inl hb,by
    obtain⟨q1,q2⟩:=hA' b (.inl hb);rw[Ea k1 q1,ai q2]⟩) (λb hb=>iA (hA' b hb).1 JS)
    ⟨_,_,[enc1 i],rfl,(λh=>by cases h),λ_=>rfl,by have:=harg i;rw[hen]at this;rw[hen];exact this,_,_,[enc1 j],rfl,(λh=>by cases h),λ_=>rfl,by have:=harg j;rw[hen]at this;rw[hen];exact this,Jr hKeep _ _ _ _ (Jr (λb hb=>⟨.inl hb,rfl⟩) _ _ _ _ (S6 cs hcs y.1 cv hcF))⟩ (hp _ (qp x i) _ (qp x j))
   have harr:(#[enc1 i,enc1 j]++cv.toArray:Array Value)=(enc1 i::enc1 j::cv:List Value).toArray:=ak
   rw[harr];refine hc.mono ?_;rintro e' w' ⟨rs,S',rfl,hext,_,hres⟩;refine⟨?_,aai hext⟩;obtain⟨u,us',vs,S1,S2,q1,_,q3,_,_,_,q7,q8⟩:=hres;have q8:us'=[]:=q8;rw[q3 rfl]at q7;simp only[Rel,ah]at q7;subst q1;subst q8;simp only[bH,aA]at q7;rw[q7.1];rfl
  have hH:Sort.HoldsK enc e.size w g0 off (idN x.length):=by
   intro t ht;rw[Sort.size_flatK,lZ]at ht;have hlt:t<xs.length:=by rw[hxl];exact ht
   have k0:0<e.size:=by
    rcases Nat.eq_zero_or_pos e.size with h|h
    ·rw[h]at ht;simp at ht
    ·exact h
   have hdiv:t / e.size<x.length:=(Gf k0).2 ht;have hmod:=Nat.mod_lt t k0;have hval:(Sort.flatK enc e.size (idN x.length))[t]! = xs[t]:=by rw[Sort.get_flatK enc e.size _ t (by rw[lZ];exact ht),acq hdiv];rw[getElem!_pos (enc ⟨t / e.size,hdiv⟩) _ (by rw[hk];exact hmod)];simp only[enc,List.getElem_take,List.getElem_drop];congr 1;rw[Nat.mul_comm];exact Nat.div_add_mod _ _
   refine⟨?_,by simp[World.frozen?,k1]⟩;rw[hval];have:=JD k1 k5 t xs[t] (bX hlt);rw[qw]at this;exact this
  have hH1:Sort.Holds enc1 w g0 off (idN x.length):=by rw[hen,e1]at hH;exact s_ hH
  have h1c:Go.Proofs.OneCell enc1:=λi=>by have:=hone i (enc1 i);rw[hen]at this;exact this ak
  have hsz:(idN x.length).size<4611686018427387904:=by rw[lZ];have:nb=140737488355328:=rfl;omega
  have hfin:=Proofs.Any.slices_SortFunc_eq L enc1 h1c (cfN (vQ res (oG cs y.1)) x) (FO hs) g cv.toArray g0 off (c+1) (idN x.length) w hg.1 hcmp hH1 hgl hsz;rw[lZ]at hfin;obtain⟨f1,f2⟩:=g_ hs hpos;refine hfin.mono ?_;rintro e' w' ⟨rfl,m,os,rfl⟩;rw[hsw];have hcl:cur.toList.length=cur.size:=ld;obtain⟨r1,r2⟩:=aaq (m:=m) (os:=os) (enc:=enc) hA hS hxl (cur:=cur.toList) (by simpa using k1) k2 k3 (by rw[hcl,k4]) h3 hr hT h6 h7 (λ_=>rfl) f1 f2;refine⟨[],λ_=>False,S,rfl,r1,λ_ h=>h.elim,λb hb=>⟨.inl hb,λh=>h⟩,?_,rfl⟩;have hnew:(BM e g cs pre res).new x y=(Sort.pdq (Proofs.ltOf (cfN (vQ res (oG cs y.1)) x)) (idN x.length) 0 x.length (Lib.bitLen x.length) true true).toList.map x.get:=by show pL (vQ res (oG cs y.1)) x=_;unfold pL;rw[dif_pos hpos]
  rw[hnew];exact r2
end Go.Bm
