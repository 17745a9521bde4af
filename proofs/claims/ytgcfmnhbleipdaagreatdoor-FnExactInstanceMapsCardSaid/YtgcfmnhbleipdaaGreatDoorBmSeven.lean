/- The typed machine that the walks of this claim go by: its data, its operations and the proof that each is sound. No condition. -/
import Derived.Test.YtgcfmnhbleipdaaGreatDoorBmSix
import Derived.Shelf.SlSortCmp.NoneTotal
set_option linter.unusedVariables false
set_option linter.unusedSimpArgs false
set_option linter.unusedSectionVars false
/- slices.SortFunc,at rows of a machine's own list:the library's law as a contract of the machine. -/
namespace Go.Bm
open Go.RowKit
abbrev a2z:=@List.get_mem
abbrev a3h:=@decide_eq_true
abbrev a40:=@List.pairwise_map
abbrev a5c:=@List.pairwise_iff_getElem
abbrev a41:=@Sort.size_flatK
abbrev a5d:=@Array.getElem_toList
structure SwoR {α:Type} (cmp:α->α->Int) (x:List α):Prop where
 irrefl:∀a∈x,¬cmp a a<0
 trans:∀a∈x,∀b∈x,∀c∈x,cmp a b<0->cmp b c<0->cmp a c<0
 ntrans:∀a∈x,∀b∈x,∀c∈x,¬cmp a b<0->¬cmp b c<0->¬cmp a c<0
section
variable {α:Type}
def cfN(cmp:α->α->Int)(x:List α)(i j:Fin x.length):Int:=cmp (x.get i) (x.get j)
theorem bja{cmp:α->α->Int}{x:List α}(h:SwoR cmp x):Sort.SWO (Proofs.ltOf (cfN cmp x)):={
 irrefl:=fun i=>by have:=h.irrefl _ (a2z x i);exact decide_eq_false this
 trans:=fun i j k h1 h2=>by exact a3h (h.trans _ (a2z x i) _ (a2z x j) _ (a2z x k) (a4w h1) (a4w h2))
 ntrans:=fun i j k h1 h2=>by exact decide_eq_false (h.ntrans _ (a2z x i) _ (a2z x j) _ (a2z x k) (a4y h1) (a4y h2)) }
@[reducible] def axz {n:Nat} (h:0<n):Inhabited (Fin n):=⟨⟨0,h⟩⟩
def idN(n:Nat):Array (Fin n):=Array.ofFn fun i=>i
def afh(cmp:α->α->Int)(x:List α):List α:=
 if h:0<x.length then
  letI:=axz h
  (Sort.pdq (Proofs.ltOf (cfN cmp x)) (idN x.length) 0 x.length (Lib.bitLen x.length) true true).toList.map x.get
 else x
theorem qj(n:Nat):(idN n).size=n:=by simp[idN]
theorem bcs{n:Nat}:(idN n).toList=List.finRange n:=by unfold idN List.finRange;rw[Array.toList_ofFn]
theorem bqt(x:List α):(List.finRange x.length).map x.get=x:=by
 unfold List.finRange;apply List.ext_getElem
 ·simp
 ·intro i h1 h2;simp
theorem bl6{cmp:α->α->Int}{x:List α}(h:SwoR cmp x):(afh cmp x).Perm x:=by
 unfold afh;split
 ·rename_i hn
  letI:=axz hn
  have hs:=Sort.pdq_sorts (Proofs.ltOf (cfN cmp x)) (bja h) (idN x.length) 0 x.length (Lib.bitLen x.length) true true (a09 _) (by rw[qj];exact a0f _) (Or.inl rfl);obtain⟨⟨h1,_,h3⟩,_⟩:=hs
  have e1:(idN x.length).extract 0 x.length=idN x.length:=by
   have:=(idN x.length).extract_size
   rwa [qj]at this
  rw[qj]at h1;rw[e1,bcs]at h3
  have e2:∀d:Array (Fin x.length),d.size=x.length->d.extract 0 x.length=d:=fun d hd=>by
   have:=d.extract_size
   rwa [hd]at this
  rw[e2 _ h1]at h3;have:=h3.map x.get;rw[bqt]at this;exact this
 ·exact List.Perm.refl _
theorem bek{cmp:α->α->Int}{x:List α}(h:SwoR cmp x):(afh cmp x).Pairwise fun a b=>¬cmp b a<0:=by
 unfold afh;split
 ·rename_i hn
  letI:=axz hn
  have hs:=Sort.pdq_sorts (Proofs.ltOf (cfN cmp x)) (bja h) (idN x.length) 0 x.length (Lib.bitLen x.length) true true (a09 _) (by rw[qj];exact a0f _) (Or.inl rfl);obtain⟨⟨h1,_,_⟩,h4⟩:=hs;rw[qj]at h1;rw[a40,a5c];intro i j hi hj hij;rw[a14]at hi hj;have:=h4 i j (a09 _) hij (by omega);rw[getElem!_pos _ i hi,getElem!_pos _ j hj]at this;exact a4y this
 ·rename_i hn;have:x=[]:=a11 (by omega);subst this;exact List.Pairwise.nil
end
theorem bnr{α:Type}[Inhabited α]{enc:α->List Value}{k:Nat}(hk:∀x,(enc x).length=k)(d:Array α){i:Nat}(hi:i<d.size):(((Sort.flatK enc k d).toList.drop (i*k)).take k)=enc d[i]!:=by
 apply a2a;intro j;rw[a1e];split
 ·rename_i hj;have hle:(i+1)*k<=d.size*k:=a1z k hi;rw[a1q,Nat.one_mul]at hle;have lt:i*k+j<d.size*k:=by omega
  rw[a1c,a2t,a23 (by rw[a41];exact lt)];have h:=Sort.get_flatK enc k d (i*k+j) lt;rw[getElem!_pos (Sort.flatK enc k d) _ (by rw[a41];exact lt)]at h;have e1:(i*k+j) / k=i:=(Sort.blk_iff k i _ (by omega)).1 ⟨by omega,by omega⟩;have e2:(i*k+j)%k=j:=by rw[Nat.mod_eq_sub_div_mul,e1];omega
  rw[h,e1,e2,getElem!_pos (enc d[i]!) j (by rw[hk];exact hj)];exact (a0o _).symm
 ·rw[a1p (by rw[hk];omega)]
theorem aqf{α:Type}[Inhabited α]{enc:α->List Value}{k:Nat}{w:World}{g off m:Nat}{d:Array α}{os:Array Obj}{cur:Array Value}{ety:TypeId}{fr:Nat×Nat}(h:w.heap[g]? = some (.cells cur ety fr)){b:Nat}(hb:b<w.heap.size) :
  (Proofs.sortWorldK enc k w g off m d os).heap[b]? = if b=g then some (.cells (Sort.putCells id off (Sort.flatK enc k d) cur) ety fr)else w.heap[b]?:=by
 unfold Proofs.sortWorldK Sort.grow Sort.putRowK Sort.putRow Sort.mapBlock Sort.ahead;rw[a4z,d0 (by simpa using hb),Array.getElem?_modify];by_cases e:b=g
 ·subst e;rw[d0 rfl,d0 rfl,h];rfl
 ·rw[ds (a0w e),ds e]
theorem awy{α:Type}[Inhabited α]{enc:α->List Value}{k:Nat}{w:World}{g off m:Nat}{d:Array α}{os:Array Obj}:w.heap.size<=(Proofs.sortWorldK enc k w g off m d os).heap.size:=by unfold Proofs.sortWorldK Sort.grow Sort.putRowK Sort.putRow Sort.mapBlock Sort.ahead;simp
theorem bn4{F cur:Array Value}{off:Nat}(h:off+F.size<=cur.size):((Sort.putCells id off F cur).toList.drop off).take F.size=F.toList:=by
 apply a2a;intro j;rw[a1e];split
 ·rename_i hj;rw[a1c,a2t];unfold Sort.putCells;rw[Array.getElem?_mapIdx,a23 (by omega)];simp only[a00];rw[d0 (by omega),show off+j-off=j by omega,a2t,a23 hj,getElem!_pos F j hj];rfl
 ·rw[a2t,a4s (by omega)]
theorem bl2{F cur:Array Value}{off:Nat}:(Sort.putCells id off F cur).size=cur.size:=by simp[Sort.putCells]
def atl:List T->T
 |[]=>.u
 |c::r=>.p c (atl r)
def aia:(cs:List T)->(atl cs).den->dy cs
 |[],_=>()
 |_::r,x=>(x.1,aia r x.2)
theorem bgv{Im:Nat->Prop}{w:World}:(cs:List T)->(h:∀c∈cs,c.size=1)->(x:(atl cs).den)->(us:List Value)->ai Im w (atl cs) x us->oi Im w (aaa cs) cs (aia cs x) us
 |[],_,_,us,h=>by simp only[atl,ai]at h;exact h
 |c::r,hc,x,us,h=>by simp only[atl,ai]at h;obtain⟨va,vb,h1,h2,h3⟩:=h;have hl:=ai.len c x.1 va h2;rw[hc c (by simp)]at hl;obtain⟨v,rfl⟩:=a4o.1 hl;exact⟨v,vb,[v],h1,(fun h=>by cases h),fun _=>rfl,h2,bgv r (fun c' hc'=>hc c' (by simp[hc'])) x.2 vb h3⟩
theorem atb{A B:Nat->Prop}{w w':World}(h:gn A B w w'):(gs:List Bool)->(ts:List T)->(x:dy ts)->(us:List Value)->oi A w gs ts x us->oi B w' gs ts x us
 |[],[],_,_,r=>r
 |g::gs,t::ts,x,us,r=>by obtain⟨u,us',vs,h1,h2,h3,h4,h5⟩:=r;exact⟨u,us',vs,h1,h2,h3,ai.keep h t x.1 vs h4,atb h gs ts x.2 us' h5⟩
 |[],_::_,_,_,r=>r.elim
 |_::_,[],_,_,r=>r.elim
theorem bnz{w w':World}(h:Ext w w'):∃q os,w'=Sort.grow (w.drewN q) os:=by
 refine⟨w'.drawn-w.drawn,w'.heap.extract w.heap.size w'.heap.size,?_⟩;have h1:=h.tape.d;obtain⟨hp,tp,dr,os,out⟩:=w';obtain⟨hp0,tp0,dr0,os0,out0⟩:=w;have e1:=h.os;have e2:=h.tape.t;have e3:=h.output;have e4:=h.size;have e5:=h.old;dsimp only at e1 e2 e3 e4 e5 h1;subst e1;subst e2;subst e3;unfold Sort.grow World.drewN;simp only[World.mk.injEq,a0b,a0e];refine⟨?_,by omega⟩;apply Array.ext_getElem?;intro i;rw[a4z];split
 ·rename_i hi;exact e5 i hi
 ·rename_i hi;rw[Array.getElem?_extract];split
  ·congr 1;omega
  ·rw[a4s (by omega)]
def btl(a:T)(g:Bool)(cs:List T)(pre:dy (a::a::cs)->List Prop)(res:dy (a::a::cs)->je [(false,O.fz (.int .i64))]):Ct:=⟨a::a::cs,g::g::aaa cs,pre,[(false,.fz (.int .i64))],res,false,none⟩
def PreR{a:T}{cs:List T}(pre:dy (a::a::cs)->List Prop)(x:List a.den)(y:dy cs):Prop:=∀p∈x,∀q∈x,ab (pre (p,(q,y)))
def atj{a:T}{cs:List T}(res:dy (a::a::cs)->je [(false,O.fz (.int .i64))])(y:dy cs)(p q:a.den):Int:=(res (p,(q,y))).1
def bcc(e:O)(g:FuncId)(cs:List T)(pre:dy (e.strip::e.strip::cs)->List Prop)(res:dy (e.strip::e.strip::cs)->je [(false,O.fz (.int .i64))]):Wt:=⟨.sl e,[.fn g (atl cs)],[false],fun x y=>[PreR pre x (aia cs y.1),SwoR (atj res (aia cs y.1)) x],fun x y=>afh (atj res (aia cs y.1)) x,[],fun _ _=>()⟩
section
variable {P:Program}
theorem bnf{A S:Nat->Prop}{w:World}{e:O}{x:List e.strip.den}{xs cur:List Value}{ety g off c:Nat}{T:Nat->Nat->Prop}[Inhabited (Fin x.length)]
  (hA:∀b,A b->b<w.heap.size) (hS:∀b,S b->b<w.heap.size/\¬A b) (hx:xs.length=x.length*e.size) (hg:w.heap[g]? = some (.cells cur.toArray ety (0,0))) (hn:x.length<=c+1) (hc:c+1<=maxLen) (hcs:cur.length=off+(c+1)*e.size) (hnb:x.length<=nb)
  (hr:S g) (hT:∀i b,T i b->S b/\b≠g) (hTd:∀i j b,i≠j->T i b->¬T j b) (hrow:∀(i:Nat) (y:e.strip.den),x[i]? = some y->Rel A w e y (T i) ((xs.drop (i*e.size)).take e.size))
  {enc:Fin x.length->List Value} (henc:∀i,enc i=(xs.drop (i.1*e.size)).take e.size) {d:Array (Fin x.length)} (hd:d.size=x.length) (hnd:d.toList.Nodup) {m:Nat} {os:Array Obj} :
  ExtS w (Proofs.sortWorldK enc e.size w g off m d os) S/\Rel (fun b=>b<(Proofs.sortWorldK enc e.size w g off m d os).heap.size/\(A b\/S b\/w.heap.size<=b)/\¬S b/\¬False) (Proofs.sortWorldK enc e.size w g off m d os) (.sl e) (d.toList.map x.get) S [.slice (some ⟨g,off,none⟩) x.length (c+1)]:=by
 have hlen:∀i,(enc i).length=e.size:=fun i=>by rw[henc,a1d,a1n,hx];have:=a1z e.size (show i.1+1<=x.length from i.2);rw[a1q,Nat.one_mul]at this;omega
 have hgl:=(a03.1 hg).1;have hheap:∀b,b<w.heap.size->b≠g->(Proofs.sortWorldK enc e.size w g off m d os).heap[b]? = w.heap[b]?:=fun b hb hne=>by rw[aqf hg hb,ds hne]
 have hFs:(Sort.flatK enc e.size d).size=x.length*e.size:=by rw[a41,hd]
 have hcl:cur.toArray.size=cur.length:=by simp
 have hll:(d.toList.map x.get).length=x.length:=by rw[a0x];exact Array.length_toList.trans hd
 have hmul:=a1z e.size hn;refine⟨⟨rfl,⟨rfl,Nat.le_add_right _ _⟩,rfl,awy,fun b hb hnS=>hheap b hb (fun e=>hnS (e▸hr))⟩,?_⟩;simp only[Rel];refine⟨_,ety,(Sort.flatK enc e.size d).toList,fun i b=>∃h:i<d.size,T (d[i]).1 b,rfl,⟨?_,.inr ⟨g,off,c,Sort.putCells id off (Sort.flatK enc e.size d) cur.toArray,?_,?_,?_,hc,?_,?_⟩⟩,?_,?_,?_,?_,?_⟩
 ·rw[a14,hFs,hll]
 ·rw[hll]
 ·rw[aqf hg hgl,d0 rfl]
 ·rw[hll];exact hn
 ·rw[bl2,hcl,hcs]
 ·rw[hll,←hFs];exact bn4 (by rw[hFs,hcl,hcs];omega)
 ·rw[hll];exact hnb
 ·intro b hb;simp only[jz,a0d]at hb;exact hb▸hr
 ·rintro i b ⟨_,hb⟩;obtain⟨h1,h2⟩:=hT _ _ hb;refine⟨h1,fun e=>h2 ?_⟩;simp only[jz,a0d]at e;exact e.symm
 ·rintro i j b hij ⟨hi,hb⟩ ⟨hj,hb'⟩;refine hTd _ _ b (fun he=>hij ?_) hb hb';have h1:d[i]=d[j]:=Fin.ext he;have hi':i<d.toList.length:=by rw[a14];exact hi
  have hj':j<d.toList.length:=by rw[a14];exact hj
  exact (List.getElem_inj (h₀:=hi') (h₁:=hj') hnd).1 (by rw[a5d,a5d];exact h1)
 ·intro i y hy
  have hi:i<d.size:=by
   have:=(a1k.1 hy).1
   rwa [a0x,a14]at this
  have hyv:y=x.get d[i]:=by have:=(a1k.1 hy).2;rw[List.getElem_map,a5d]at this;exact this.symm
  have hTi:(fun b=>∃h:i<d.size,T (d[i]).1 b)=T (d[i]).1:=funext fun b=>propext ⟨fun⟨_,h⟩=>h,fun h=>⟨hi,h⟩⟩;show Rel _ _ e y (fun b=>∃h:i<d.size,T (d[i]).1 b) _;rw[hTi,bnr hlen d hi,getElem!_pos d i hi,henc,hyv];refine Rel.keep (w:=w) (Im:=A) (fun b hb=>⟨⟨a1o (hA b hb) awy,.inl hb,fun h=>(hS b h).2 hb,fun h=>h⟩,hheap b (hA b hb) (fun e=>(hS g hr).2 (e▸hb))⟩) e _ _ _ (fun b hb=>?_) (hrow _ _ (a0o _));obtain⟨h1,h2⟩:=hT _ _ hb;exact hheap b (hS b h1).1 h2
theorem bj8(n:Nat):(List.finRange n).Nodup:=by unfold List.Nodup List.finRange;rw[a5c];intro i j hi hj hij;simp only[List.getElem_ofFn,ne_eq,Fin.mk.injEq];omega
theorem bkb{α:Type}{cmp:α->α->Int}{x:List α}(h:SwoR cmp x)(hn:0<x.length):letI:=axz hn
  (Sort.pdq (Proofs.ltOf (cfN cmp x)) (idN x.length) 0 x.length (Lib.bitLen x.length) true true).size=x.length/\(Sort.pdq (Proofs.ltOf (cfN cmp x)) (idN x.length) 0 x.length (Lib.bitLen x.length) true true).toList.Nodup:=by
 letI:=axz hn
 have hs:=Sort.pdq_sorts (Proofs.ltOf (cfN cmp x)) (bja h) (idN x.length) 0 x.length (Lib.bitLen x.length) true true (a09 _) (by rw[qj];exact a0f _) (Or.inl rfl);obtain⟨⟨h1,_,h3⟩,_⟩:=hs;rw[qj]at h1
 have e2:∀d:Array (Fin x.length),d.size=x.length->d.extract 0 x.length=d:=fun d hd=>by
  have:=d.extract_size
  rwa [hd]at this
 rw[e2 _ (qj _),e2 _ h1,bcs]at h3;exact⟨h1,h3.nodup_iff.2 (bj8 _)⟩
theorem bqj{n:Nat}[Inhabited (Fin n)]{i:Nat}(h:i<n):(idN n)[i]! = ⟨i,h⟩:=by rw[getElem!_pos (idN n) i (by rw[qj];exact h)];simp[idN]
theorem bpy{α:Type}[Inhabited α](enc:α->Value)(d:Array α):Sort.flatK (fun x=>[enc x]) 1 d=d.map enc:=by
 apply Array.ext
 ·simp
 ·intro i h1 h2;have hi:i<d.size:=by simpa using h2
  have:=Sort.get_flatK (fun x=>[enc x]) 1 d i (by omega);rw[getElem!_pos _ i h1]at this;rw[this,Array.getElem_map,Nat.div_one,Nat.mod_one,getElem!_pos d i hi];rfl
theorem put1{α:Type}[Inhabited α](enc:α->Value)(off:Nat)(d:Array α)(c:Array Value):Sort.putCells enc off d c=Sort.putCells id off (d.map enc) c:=by
 unfold Sort.putCells;congr 1
 funext k x
 rw[a4b];split
 ·rename_i h;have hk:k-off<d.size:=by omega
  rw[getElem!_pos d _ hk,getElem!_pos (d.map enc) _ (by rw[a4b];exact hk),Array.getElem_map];rfl
 ·rfl
theorem brq{α:Type}[Inhabited α](enc:α->Value){w:World}{g off m:Nat}{d:Array α}{os:Array Obj}:Proofs.sortWorld enc w g off m d os=Proofs.sortWorldK (fun x=>[enc x]) 1 w g off m d os:=by unfold Proofs.sortWorld Proofs.sortWorldK Sort.putRowK Sort.putRow;rw[bpy];have:Sort.putCells enc off d=Sort.putCells id off (d.map enc):=funext fun c=>put1 enc off d c;rw[this]
theorem blv{α:Type}[Inhabited α]{enc:α->Value}{w:World}{g off:Nat}{d:Array α}(h:Sort.HoldsK (fun x=>[enc x]) 1 w g off d):Sort.Holds enc w g off d:=by unfold Sort.HoldsK at h;rw[bpy]at h;intro j hj;have:=h j (by rw[a4b];exact hj);rw[getElem!_pos (d.map enc) _ (by rw[a4b];exact hj),Array.getElem_map]at this;rw[getElem!_pos d j hj];exact this
theorem bnk{ρ:Shelf.Ren}(L:Proofs.SlLaysF.n6 P ρ)(e:O)(e1:e.size=1)(hcall:asx P (ρ.f 6)){g:FuncId}{cs:List T}
  {pre:dy (e.strip::e.strip::cs)->List Prop} {res:dy (e.strip::e.strip::cs)->je [(false,O.fz (.int .i64))]} (hcs:∀c∈cs,c.size=1) (hg:bn P g (btl e.strip false cs pre res)):bn P (ρ.f 6) (ax3 (bcc e g cs pre res)):=by
 refine⟨hcall,?_⟩;intro A w u (x:List e.strip.den) us y S hE hA hS hRel hArg hPre;obtain⟨hp,hs,_⟩:=hPre;obtain⟨u1,us',vs,rfl,_,hv,hF,hnil⟩:=hArg;have hnil:us'=[]:=hnil;subst hnil;rw[hv rfl]at hF;simp only[ai]at hF;obtain⟨cv,hcv,hcF⟩:=hF;simp only[a0i,a0b]at hcv;subst hcv;simp only[bcc,Rel]at hRel;obtain⟨v,ety,xs,T,h1,h2,h3,h4,h5,h6,h7⟩:=hRel;simp only[a0i,a0b]at h1;subst h1;by_cases hn:x.length=0
 ·have hx:x=[]:=a11 hn;subst hx
  obtain⟨q,cap,rfl⟩:∃q cap,u=.slice q 0 cap:=by
   rcases h2.2 with⟨_,oa,rfl⟩|⟨g0,off,c,cur,rfl,_⟩
   ·exact⟨_,_,rfl⟩
   ·exact⟨_,_,rfl⟩
  refine (Proofs.AnyF.slices_SortFunc_none { L with } q cap (.func (.func g) #[] cv.toArray) w).mono ?_;rintro e' w' ⟨rfl,rfl⟩;refine⟨[],fun _=>False,S,rfl,⟨rfl,⟨rfl,a0f _⟩,rfl,a0f _,fun _ _ _=>rfl⟩,fun _ h=>h.elim,fun b hb=>⟨.inl hb,fun h=>h⟩,?_,rfl⟩;have hnew:(bcc e g cs pre res).new [] y=[]:=by show afh (atj res (aia cs y.1)) []=[];unfold afh;rw[dif_neg (by simp)]
  rw[hnew];simp only[bcc,Rel];exact⟨_,ety,xs,T,rfl,h2,h3,h4,h5,h6,fun i y hy=>by simp at hy⟩
 ·have hpos:0<x.length:=by omega
  letI:=axz hpos
  rcases h2 with⟨hxl,⟨h0,_⟩|⟨g0,off,c,cur,rfl,k1,k2,k3,k4,k5⟩⟩
  ·exact absurd h0 hn
  have hgl:=(a03.1 k1).1;have hr:S g0:=h4 g0 rfl;have hT:∀i b,T i b->S b/\b≠g0:=fun i b hb=>⟨(h5 i b hb).1,fun e=>(h5 i b hb).2 (by rw[e];rfl)⟩;let enc:Fin x.length->List Value:=fun i=>(xs.drop (i.1*e.size)).take e.size
  have hrow:∀i:Fin x.length,Rel A w e (x.get i) (T i.1) (enc i):=fun i=>h7 i.1 _ (a0o _);have hk:∀i,(enc i).length=e.size:=fun i=>Rel.len _ _ _ _ (hrow i);have hxl1:xs.length=x.length:=by rw[hxl,e1,a33]
  let enc1:Fin x.length->Value:=fun i=>xs.getD i.1 undef
  have hen:enc=fun i=>[enc1 i]:=funext fun i=>by
   have hi:i.1<xs.length:=by rw[hxl1];exact i.2
   have h1:(xs.drop i.1).take 1=[xs[i.1]]:=by rw[a4d hi];rfl
   simp only[enc,enc1,e1,a33,h1,a0n,a0o hi,a0z]
  have hsw:∀m dk os,Proofs.sortWorld enc1 w g0 off m dk os=Proofs.sortWorldK enc e.size w g0 off m dk os:=fun m dk os=>by rw[hen,e1];exact brq enc1
  have hone:∀i,∀v∈enc i,v.oneCell'=true:=fun i=>Rel.one _ _ _ _ (hrow i);have hA':∀b,(A b\/S b/\b≠g0)->b<w.heap.size/\b≠g0:=fun b hb=>hb.elim (fun h=>⟨hA b h,fun e=>(hS g0 hr).2 (e▸h)⟩) fun h=>⟨(hS b h.1).1,h.2⟩
  have hcmp:Proofs.CmpLays1 P g cv.toArray enc1 (cfN (atj res (aia cs y.1)) x) g0 off (idN x.length).size w:=by
   intro m os dk hdk i j;rw[hsw];have hKeep:gn (fun b=>A b\/S b/\b≠g0) (fun b=>A b\/S b/\b≠g0) w (Proofs.sortWorldK enc e.size w g0 off m dk os):=fun b hb=>⟨hb,by obtain⟨q1,q2⟩:=hA' b hb;rw[aqf k1 q1,ds q2]⟩;have harg:∀i:Fin x.length,ai (fun b=>A b\/S b/\b≠g0) (Proofs.sortWorldK enc e.size w g0 off m dk os) e.strip (x.get i) (enc i):=fun i=>ai.keep hKeep _ _ _ (Rel.frz (fun b hb=>.inl hb) e _ _ _ (fun b hb=>.inr (hT _ b hb)) (hrow i))
   have hc:=hg.2 (fun b=>A b\/S b/\b≠g0) (Proofs.sortWorldK enc e.size w g0 off m dk os) (enc1 i::enc1 j::cv) (x.get i,(x.get j,aia cs y.1)) (hE.of fun b hb _=>⟨.inl hb,by
    obtain⟨q1,q2⟩:=hA' b (.inl hb);rw[aqf k1 q1,ds q2]⟩) (fun b hb=>a1o (hA' b hb).1 awy)
    ⟨_,_,[enc1 i],rfl,(fun h=>by cases h),fun _=>rfl,by have:=harg i;rw[hen]at this;rw[hen];exact this,_,_,[enc1 j],rfl,(fun h=>by cases h),fun _=>rfl,by have:=harg j;rw[hen]at this;rw[hen];exact this,atb hKeep _ _ _ _ (atb (fun b hb=>⟨.inl hb,rfl⟩) _ _ _ _ (bgv cs hcs y.1 cv hcF))⟩ (hp _ (a2z x i) _ (a2z x j))
   have harr:(#[enc1 i,enc1 j]++cv.toArray:Array Value)=(enc1 i::enc1 j::cv:List Value).toArray:=by simp
   rw[harr];refine hc.mono ?_;rintro e' w' ⟨rs,S',rfl,hext,_,hres⟩;refine⟨?_,bnz hext⟩;obtain⟨u,us',vs,S1,S2,q1,_,q3,_,_,_,q7,q8⟩:=hres;have q8:us'=[]:=q8;rw[q3 rfl]at q7;simp only[Rel,ai]at q7;subst q1;subst q8;simp only[a0i,a0b]at q7;rw[q7.1];rfl
  have hH:Sort.HoldsK enc e.size w g0 off (idN x.length):=by
   intro t ht;rw[a41,qj]at ht;have hlt:t<xs.length:=by rw[hxl];exact ht
   have k0:0<e.size:=by
    rcases Nat.eq_zero_or_pos e.size with h|h
    ·rw[h]at ht;simp at ht
    ·exact h
   have hdiv:t / e.size<x.length:=(a5a k0).2 ht;have hmod:=Nat.mod_lt t k0;have hval:(Sort.flatK enc e.size (idN x.length))[t]! = xs[t]:=by rw[Sort.get_flatK enc e.size _ t (by rw[qj];exact ht),bqj hdiv];rw[getElem!_pos (enc ⟨t / e.size,hdiv⟩) _ (by rw[hk];exact hmod)];simp only[enc,List.getElem_take,List.getElem_drop];congr 1;rw[Nat.mul_comm];exact Nat.div_add_mod _ _
   refine⟨?_,by simp[World.frozen?,k1]⟩;rw[hval];have:=aty k1 k5 t xs[t] (a0o hlt);rw[a2u]at this;exact this
  have hH1:Sort.Holds enc1 w g0 off (idN x.length):=by rw[hen,e1]at hH;exact blv hH
  have h1c:Go.Proofs.OneCell enc1:=fun i=>by have:=hone i (enc1 i);rw[hen]at this;exact this (by simp)
  have hsz:(idN x.length).size<4611686018427387904:=by rw[qj];have:nb=140737488355328:=rfl;omega
  have hfin:=Proofs.Any.slices_SortFunc_eq L enc1 h1c (cfN (atj res (aia cs y.1)) x) (bja hs) g cv.toArray g0 off (c+1) (idN x.length) w hg.1 hcmp hH1 hgl hsz;rw[qj]at hfin;obtain⟨f1,f2⟩:=bkb hs hpos;refine hfin.mono ?_;rintro e' w' ⟨rfl,m,os,rfl⟩;rw[hsw];have hcl:cur.toList.length=cur.size:=a14;obtain⟨r1,r2⟩:=bnf (m:=m) (os:=os) (enc:=enc) hA hS hxl (cur:=cur.toList) (by simpa using k1) k2 k3 (by rw[hcl,k4]) h3 hr hT h6 h7 (fun _=>rfl) f1 f2;refine⟨[],fun _=>False,S,rfl,r1,fun _ h=>h.elim,fun b hb=>⟨.inl hb,fun h=>h⟩,?_,rfl⟩;have hnew:(bcc e g cs pre res).new x y=(Sort.pdq (Proofs.ltOf (cfN (atj res (aia cs y.1)) x)) (idN x.length) 0 x.length (Lib.bitLen x.length) true true).toList.map x.get:=by show afh (atj res (aia cs y.1)) x=_;unfold afh;rw[dif_pos hpos]
  rw[hnew];exact r2
end
end Go.Bm
