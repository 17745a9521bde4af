/- The typed machine that the walks of this claim go by: its data, its operations and the proof that each is sound. No condition. -/
import Derived.Test.YtdcandojebpfnaaBmFive
import Derived.Shelf.SlSortCmp.NoneTotal
set_option linter.unusedVariables false
set_option linter.unusedSimpArgs false
set_option linter.unusedSectionVars false
/- slices.SortFunc,at rows of a machine's own list:the library's law as a contract of the machine. -/
namespace Go.Bm
open Go.RowKit
structure SwoR {α:Type} (cmp:α->α->Int) (x:List α):Prop where
 irrefl:∀ a ∈ x,¬ cmp a a < 0
 trans:∀ a ∈ x,∀ b ∈ x,∀ c ∈ x,cmp a b < 0->cmp b c < 0->cmp a c < 0
 ntrans:∀ a ∈ x,∀ b ∈ x,∀ c ∈ x,¬ cmp a b < 0->¬ cmp b c < 0->¬ cmp a c < 0
section
variable {α:Type}
def cfN (cmp:α->α->Int) (x:List α) (i j:Fin x.length):Int:=cmp (x.get i) (x.get j)
theorem bh8 {cmp:α->α->Int} {x:List α} (h:SwoR cmp x):Sort.SWO (Proofs.ltOf (cfN cmp x)):={
 irrefl:=fun i=>by
  have:=h.irrefl _ (List.get_mem x i)
  exact decide_eq_false this
 trans:=fun i j k h1 h2=>by
  exact decide_eq_true (h.trans _ (List.get_mem x i) _ (List.get_mem x j) _ (List.get_mem x k) (of_decide_eq_true h1) (of_decide_eq_true h2))
 ntrans:=fun i j k h1 h2=>by
  exact decide_eq_false (h.ntrans _ (List.get_mem x i) _ (List.get_mem x j) _ (List.get_mem x k) (of_decide_eq_false h1) (of_decide_eq_false h2)) }
@[reducible] def awb {n:Nat} (h:0 < n):Inhabited (Fin n):=⟨⟨0,h⟩⟩
def idN (n:Nat):Array (Fin n):=Array.ofFn fun i=>i
def afm (cmp:α->α->Int) (x:List α):List α:=
 if h:0 < x.length then
  letI:=awb h
  (Sort.pdq (Proofs.ltOf (cfN cmp x)) (idN x.length) 0 x.length (Lib.bitLen x.length) true true).toList.map x.get
 else x
theorem qp (n:Nat):(idN n).size=n:=by simp [idN]
theorem bcr {n:Nat}:(idN n).toList=List.finRange n:=by
 unfold idN List.finRange
 rw [Array.toList_ofFn]
theorem bos (x:List α):(List.finRange x.length).map x.get=x:=by
 unfold List.finRange
 apply List.ext_getElem
 ·simp
 ·intro i h1 h2
  simp
theorem biw {cmp:α->α->Int} {x:List α} (h:SwoR cmp x):(afm cmp x).Perm x:=by
 unfold afm
 split
 ·rename_i hn
  letI:=awb hn
  have hs:=Sort.pdq_sorts (Proofs.ltOf (cfN cmp x)) (bh8 h) (idN x.length) 0 x.length (Lib.bitLen x.length) true true (Nat.zero_le _) (by rw [qp];exact Nat.le_refl _) (Or.inl rfl)
  obtain ⟨⟨h1,_,h3⟩,_⟩:=hs
  have e1:(idN x.length).extract 0 x.length=idN x.length:=by
   have:=(idN x.length).extract_size
   rwa [qp]at this
  rw [qp]at h1
  rw [e1,bcr]at h3
  have e2:∀ d:Array (Fin x.length),d.size=x.length->d.extract 0 x.length=d:=fun d hd=>by
   have:=d.extract_size
   rwa [hd]at this
  rw [e2 _ h1]at h3
  have:=h3.map x.get
  rw [bos]at this
  exact this
 ·exact List.Perm.refl _
theorem bd7 {cmp:α->α->Int} {x:List α} (h:SwoR cmp x):(afm cmp x).Pairwise fun a b=>¬ cmp b a < 0:=by
 unfold afm
 split
 ·rename_i hn
  letI:=awb hn
  have hs:=Sort.pdq_sorts (Proofs.ltOf (cfN cmp x)) (bh8 h) (idN x.length) 0 x.length (Lib.bitLen x.length) true true (Nat.zero_le _) (by rw [qp];exact Nat.le_refl _) (Or.inl rfl)
  obtain ⟨⟨h1,_,_⟩,h4⟩:=hs
  rw [qp]at h1
  rw [List.pairwise_map,List.pairwise_iff_getElem]
  intro i j hi hj hij
  rw [Array.length_toList]at hi hj
  have:=h4 i j (Nat.zero_le _) hij (by omega)
  rw [getElem!_pos _ i hi,getElem!_pos _ j hj]at this
  exact of_decide_eq_false this
 ·rename_i hn
  have:x=[]:=List.eq_nil_of_length_eq_zero (by omega)
  subst this
  exact List.Pairwise.nil
end
theorem bl1 {α:Type} [Inhabited α] {enc:α->List Value} {k:Nat} (hk:∀ x,(enc x).length=k) (d:Array α) {i:Nat} (hi:i < d.size):(((Sort.flatK enc k d).toList.drop (i * k)).take k)=enc d[i]!:=by
 apply List.ext_getElem?
 intro j
 rw [List.getElem?_take]
 split
 ·rename_i hj
  have hle:(i+1) * k<=d.size * k:=Nat.mul_le_mul_right k hi
  rw [Nat.add_mul,Nat.one_mul]at hle
  have lt:i * k+j < d.size * k:=by omega
  rw [List.getElem?_drop,Array.getElem?_toList,Array.getElem?_eq_getElem (by rw [Sort.size_flatK];exact lt)]
  have h:=Sort.get_flatK enc k d (i * k+j) lt
  rw [getElem!_pos (Sort.flatK enc k d) _ (by rw [Sort.size_flatK];exact lt)]at h
  have e1:(i * k+j) / k=i:=(Sort.blk_iff k i _ (by omega)).1 ⟨by omega,by omega⟩
  have e2:(i * k+j) % k=j:=by rw [Nat.mod_eq_sub_div_mul,e1];omega
  rw [h,e1,e2,getElem!_pos (enc d[i]!) j (by rw [hk];exact hj)]
  exact (List.getElem?_eq_getElem _).symm
 ·rw [List.getElem?_eq_none (by rw [hk];omega)]
theorem awn {α:Type} [Inhabited α] {enc:α->List Value} {k:Nat} {w:World} {g off m:Nat} {d:Array α} {os:Array Obj} {cur:Array Value} {ety:TypeId} {fr:Nat×Nat} (h:w.heap[g]? = some (.cells cur ety fr)) {b:Nat} (hb:b < w.heap.size) :
  (Proofs.sortWorldK enc k w g off m d os).heap[b]? = if b=g then some (.cells (Sort.putCells id off (Sort.flatK enc k d) cur) ety fr)else w.heap[b]?:=by
 unfold Proofs.sortWorldK Sort.grow Sort.putRowK Sort.putRow Sort.mapBlock Sort.ahead
 rw [Array.getElem?_append,if_pos (by simpa using hb),Array.getElem?_modify]
 by_cases e:b=g
 ·subst e;rw [if_pos rfl,if_pos rfl,h];rfl
 ·rw [if_neg (Ne.symm e),if_neg e]
theorem axh {α:Type} [Inhabited α] {enc:α->List Value} {k:Nat} {w:World} {g off m:Nat} {d:Array α} {os:Array Obj}:w.heap.size<=(Proofs.sortWorldK enc k w g off m d os).heap.size:=by
 unfold Proofs.sortWorldK Sort.grow Sort.putRowK Sort.putRow Sort.mapBlock Sort.ahead
 simp
theorem bll {F cur:Array Value} {off:Nat} (h:off+F.size<=cur.size):((Sort.putCells id off F cur).toList.drop off).take F.size=F.toList:=by
 apply List.ext_getElem?
 intro j
 rw [List.getElem?_take]
 split
 ·rename_i hj
  rw [List.getElem?_drop,Array.getElem?_toList]
  unfold Sort.putCells
  rw [Array.getElem?_mapIdx,Array.getElem?_eq_getElem (by omega)]
  simp only [Option.map_some]
  rw [if_pos (by omega),show off+j - off=j by omega,Array.getElem?_toList,Array.getElem?_eq_getElem hj,getElem!_pos F j hj]
  rfl
 ·rw [Array.getElem?_toList,Array.getElem?_eq_none (by omega)]
theorem bjf {F cur:Array Value} {off:Nat}:(Sort.putCells id off F cur).size=cur.size:=by simp [Sort.putCells]
def atf:List T->T
 | []=>.u
 | c::r=>.p c (atf r)
def ah8:(cs:List T)->(atf cs).den->bi cs
 | [],_=>()
 | _::r,x=>(x.1,ah8 r x.2)
theorem beu {Im:Nat->Prop} {w:World}:(cs:List T)->(h:∀ c ∈ cs,c.size=1)->(x:(atf cs).den)->(us:List Value)->aq Im w (atf cs) x us->oy Im w (at6 cs) cs (ah8 cs x) us
 | [],_,_,us,h=>by
  simp only [atf,aq]at h
  exact h
 | c::r,hc,x,us,h=>by
  simp only [atf,aq]at h
  obtain ⟨va,vb,h1,h2,h3⟩:=h
  have hl:=aq.len c x.1 va h2
  rw [hc c (by simp)]at hl
  obtain ⟨v,rfl⟩:=List.length_eq_one_iff.1 hl
  exact ⟨v,vb,[v],h1,(fun h=>by cases h),fun _=>rfl,h2,beu r (fun c' hc'=>hc c' (by simp [hc'])) x.2 vb h3⟩
theorem ar6 {A B:Nat->Prop} {w w':World} (h:jc A B w w'):(gs:List Bool)->(ts:List T)->(x:bi ts)->(us:List Value)->oy A w gs ts x us->oy B w' gs ts x us
 | [],[],_,_,r=>r
 | g::gs,t::ts,x,us,r=>by
  obtain ⟨u,us',vs,h1,h2,h3,h4,h5⟩:=r
  exact ⟨u,us',vs,h1,h2,h3,aq.keep h t x.1 vs h4,ar6 h gs ts x.2 us' h5⟩
 | [],_::_,_,_,r=>r.elim
 | _::_,[],_,_,r=>r.elim
theorem blq {w w':World} (h:Ext w w'):∃ q os,w'=Sort.grow (w.drewN q) os:=by
 refine ⟨w'.drawn - w.drawn,w'.heap.extract w.heap.size w'.heap.size,?_⟩
 have h1:=h.tape.d
 obtain ⟨hp,tp,dr,os,out⟩:=w'
 obtain ⟨hp0,tp0,dr0,os0,out0⟩:=w
 have e1:=h.os
 have e2:=h.tape.t
 have e3:=h.output
 have e4:=h.size
 have e5:=h.old
 dsimp only at e1 e2 e3 e4 e5 h1
 subst e1;subst e2;subst e3
 unfold Sort.grow World.drewN
 simp only [World.mk.injEq,and_true,true_and]
 refine ⟨?_,by omega⟩
 apply Array.ext_getElem?
 intro i
 rw [Array.getElem?_append]
 split
 ·rename_i hi
  exact e5 i hi
 ·rename_i hi
  rw [Array.getElem?_extract]
  split
  ·congr 1;omega
  ·rw [Array.getElem?_eq_none (by omega)]
def bqz (a:T) (g:Bool) (cs:List T) (pre:bi (a::a::cs)->List Prop) (res:bi (a::a::cs)->js [(false,O.fz (.int .i64))]):Ct:=⟨a::a::cs,g::g::at6 cs,pre,[(false,.fz (.int .i64))],res,false,none⟩
def PreR {a:T} {cs:List T} (pre:bi (a::a::cs)->List Prop) (x:List a.den) (y:bi cs):Prop:=∀ p ∈ x,∀ q ∈ x,ae (pre (p,(q,y)))
def asz {a:T} {cs:List T} (res:bi (a::a::cs)->js [(false,O.fz (.int .i64))]) (y:bi cs) (p q:a.den):Int:=(res (p,(q,y))).1
def bdw (e:O) (g:FuncId) (cs:List T) (pre:bi (e.strip::e.strip::cs)->List Prop) (res:bi (e.strip::e.strip::cs)->js [(false,O.fz (.int .i64))]):Wt:=
 ⟨.sl e,[.fn g (atf cs)],[false],fun x y=>[PreR pre x (ah8 cs y.1),SwoR (asz res (ah8 cs y.1)) x],fun x y=>afm (asz res (ah8 cs y.1)) x,[],fun _ _=>()⟩
section
variable {P:Program}
theorem bls {A S:Nat->Prop} {w:World} {e:O} {x:List e.strip.den} {xs cur:List Value} {ety g off c:Nat} {T:Nat->Nat->Prop} [Inhabited (Fin x.length)]
  (hA:∀ b,A b->b < w.heap.size) (hS:∀ b,S b->b < w.heap.size/\¬ A b) (hx:xs.length=x.length * e.size) (hg:w.heap[g]? = some (.cells cur.toArray ety (0,0))) (hn:x.length<=c+1) (hc:c+1<=maxLen) (hcs:cur.length=off+(c+1) * e.size) (hnb:x.length<=nb)
  (hr:S g) (hT:∀ i b,T i b->S b/\b ≠ g) (hTd:∀ i j b,i ≠ j->T i b->¬ T j b) (hrow:∀ (i:Nat) (y:e.strip.den),x[i]? = some y->Rel A w e y (T i) ((xs.drop (i * e.size)).take e.size))
  {enc:Fin x.length->List Value} (henc:∀ i,enc i=(xs.drop (i.1 * e.size)).take e.size) {d:Array (Fin x.length)} (hd:d.size=x.length) (hnd:d.toList.Nodup) {m:Nat} {os:Array Obj} :
  ExtS w (Proofs.sortWorldK enc e.size w g off m d os) S/\Rel (fun b=>b < (Proofs.sortWorldK enc e.size w g off m d os).heap.size/\(A b\/S b\/w.heap.size<=b)/\¬ S b/\¬ False) (Proofs.sortWorldK enc e.size w g off m d os) (.sl e) (d.toList.map x.get) S [.slice (some ⟨g,off,none⟩) x.length (c+1)]:=by
 have hlen:∀ i,(enc i).length=e.size:=fun i=>by
  rw [henc,List.length_take,List.length_drop,hx]
  have:=Nat.mul_le_mul_right e.size (show i.1+1<=x.length from i.2)
  rw [Nat.add_mul,Nat.one_mul]at this
  omega
 have hgl:=(Array.getElem?_eq_some_iff.1 hg).1
 have hheap:∀ b,b < w.heap.size->b ≠ g->(Proofs.sortWorldK enc e.size w g off m d os).heap[b]? = w.heap[b]?:=fun b hb hne=>by rw [awn hg hb,if_neg hne]
 have hFs:(Sort.flatK enc e.size d).size=x.length * e.size:=by rw [Sort.size_flatK,hd]
 have hcl:cur.toArray.size=cur.length:=by simp
 have hll:(d.toList.map x.get).length=x.length:=by rw [List.length_map];exact Array.length_toList.trans hd
 have hmul:=Nat.mul_le_mul_right e.size hn
 refine ⟨⟨rfl,⟨rfl,Nat.le_add_right _ _⟩,rfl,axh,fun b hb hnS=>hheap b hb (fun e=>hnS (e ▸ hr))⟩,?_⟩
 simp only [Rel]
 refine ⟨_,ety,(Sort.flatK enc e.size d).toList,fun i b=>∃ h:i < d.size,T (d[i]).1 b,rfl,⟨?_,.inr ⟨g,off,c,Sort.putCells id off (Sort.flatK enc e.size d) cur.toArray,?_,?_,?_,hc,?_,?_⟩⟩,?_,?_,?_,?_,?_⟩
 ·rw [Array.length_toList,hFs,hll]
 ·rw [hll]
 ·rw [awn hg hgl,if_pos rfl]
 ·rw [hll];exact hn
 ·rw [bjf,hcl,hcs]
 ·rw [hll,← hFs]
  exact bll (by rw [hFs,hcl,hcs];omega)
 ·rw [hll];exact hnb
 ·intro b hb
  simp only [lu,Option.some.injEq]at hb
  exact hb ▸ hr
 ·rintro i b ⟨_,hb⟩
  obtain ⟨h1,h2⟩:=hT _ _ hb
  refine ⟨h1,fun e=>h2 ?_⟩
  simp only [lu,Option.some.injEq]at e
  exact e.symm
 ·rintro i j b hij ⟨hi,hb⟩ ⟨hj,hb'⟩
  refine hTd _ _ b (fun he=>hij ?_) hb hb'
  have h1:d[i]=d[j]:=Fin.ext he
  have hi':i < d.toList.length:=by rw [Array.length_toList];exact hi
  have hj':j < d.toList.length:=by rw [Array.length_toList];exact hj
  exact (List.getElem_inj (h₀:=hi') (h₁:=hj') hnd).1 (by rw [Array.getElem_toList,Array.getElem_toList];exact h1)
 ·intro i y hy
  have hi:i < d.size:=by
   have:=(List.getElem?_eq_some_iff.1 hy).1
   rwa [List.length_map,Array.length_toList]at this
  have hyv:y=x.get d[i]:=by
   have:=(List.getElem?_eq_some_iff.1 hy).2
   rw [List.getElem_map,Array.getElem_toList]at this
   exact this.symm
  have hTi:(fun b=>∃ h:i < d.size,T (d[i]).1 b)=T (d[i]).1:=funext fun b=>propext ⟨fun ⟨_,h⟩=>h,fun h=>⟨hi,h⟩⟩
  show Rel _ _ e y (fun b=>∃ h:i < d.size,T (d[i]).1 b) _
  rw [hTi,bl1 hlen d hi,getElem!_pos d i hi,henc,hyv]
  refine Rel.keep (w:=w) (Im:=A) (fun b hb=>⟨⟨Nat.lt_of_lt_of_le (hA b hb) axh,.inl hb,fun h=>(hS b h).2 hb,fun h=>h⟩,hheap b (hA b hb) (fun e=>(hS g hr).2 (e ▸ hb))⟩) e _ _ _ (fun b hb=>?_) (hrow _ _ (List.getElem?_eq_getElem _))
  obtain ⟨h1,h2⟩:=hT _ _ hb
  exact hheap b (hS b h1).1 h2
theorem bka (n:Nat):(List.finRange n).Nodup:=by
 unfold List.Nodup List.finRange
 rw [List.pairwise_iff_getElem]
 intro i j hi hj hij
 simp only [List.getElem_ofFn,ne_eq,Fin.mk.injEq]
 omega
theorem bjz {α:Type} {cmp:α->α->Int} {x:List α} (h:SwoR cmp x) (hn:0 < x.length):letI:=awb hn
  (Sort.pdq (Proofs.ltOf (cfN cmp x)) (idN x.length) 0 x.length (Lib.bitLen x.length) true true).size=x.length/\(Sort.pdq (Proofs.ltOf (cfN cmp x)) (idN x.length) 0 x.length (Lib.bitLen x.length) true true).toList.Nodup:=by
 letI:=awb hn
 have hs:=Sort.pdq_sorts (Proofs.ltOf (cfN cmp x)) (bh8 h) (idN x.length) 0 x.length (Lib.bitLen x.length) true true (Nat.zero_le _) (by rw [qp];exact Nat.le_refl _) (Or.inl rfl)
 obtain ⟨⟨h1,_,h3⟩,_⟩:=hs
 rw [qp]at h1
 have e2:∀ d:Array (Fin x.length),d.size=x.length->d.extract 0 x.length=d:=fun d hd=>by
  have:=d.extract_size
  rwa [hd]at this
 rw [e2 _ (qp _),e2 _ h1,bcr]at h3
 exact ⟨h1,h3.nodup_iff.2 (bka _)⟩
theorem bn9 {n:Nat} [Inhabited (Fin n)] {i:Nat} (h:i < n):(idN n)[i]! = ⟨i,h⟩:=by
 rw [getElem!_pos (idN n) i (by rw [qp];exact h)]
 simp [idN]
theorem bn6 {ρ:Shelf.Ren} (L:Proofs.SlLaysF0.n6 P ρ) (e:O) (aE:∀ w,(isAgg (ρ.t 24)).run P w=.ok true w) (zE:∀ w,(Go.sizeOf (ρ.t 24)).run P w=.ok e.size w) (hcall:asg P (ρ.f 6)) {g:FuncId} {cs:List T}
  {pre:bi (e.strip::e.strip::cs)->List Prop} {res:bi (e.strip::e.strip::cs)->js [(false,O.fz (.int .i64))]} (hcs:∀ c ∈ cs,c.size=1) (hg:dg P g (bqz e.strip true cs pre res)):dg P (ρ.f 6) (ac8 (bdw e g cs pre res)):=by
 refine ⟨hcall,?_⟩
 intro A w u (x:List e.strip.den) us y S hA hS hRel hArg hPre
 obtain ⟨hp,hs,_⟩:=hPre
 obtain ⟨u1,us',vs,rfl,_,hv,hF,hnil⟩:=hArg
 have hnil:us'=[]:=hnil
 subst hnil
 rw [hv rfl]at hF
 simp only [aq]at hF
 obtain ⟨cv,hcv,hcF⟩:=hF
 simp only [List.cons.injEq,and_true]at hcv
 subst hcv
 simp only [bdw,Rel]at hRel
 obtain ⟨v,ety,xs,T,h1,h2,h3,h4,h5,h6,h7⟩:=hRel
 simp only [List.cons.injEq,and_true]at h1
 subst h1
 by_cases hn:x.length=0
 ·have hx:x=[]:=List.eq_nil_of_length_eq_zero hn
  subst hx
  obtain ⟨q,cap,rfl⟩:∃ q cap,u=.slice q 0 cap:=by
   rcases h2.2 with ⟨_,oa,rfl⟩ | ⟨g0,off,c,cur,rfl,_⟩
   ·exact ⟨_,_,rfl⟩
   ·exact ⟨_,_,rfl⟩
  refine (Proofs.AnyF.slices_SortFunc_none L q cap (.func (.func g) #[] cv.toArray) w).mono ?_
  rintro e' w' ⟨rfl,rfl⟩
  refine ⟨[],fun _=>False,S,rfl,⟨rfl,⟨rfl,Nat.le_refl _⟩,rfl,Nat.le_refl _,fun _ _ _=>rfl⟩,fun _ h=>h.elim,fun b hb=>⟨.inl hb,fun h=>h⟩,?_,rfl⟩
  have hnew:(bdw e g cs pre res).new [] y=[]:=by
   show afm (asz res (ah8 cs y.1)) []=[]
   unfold afm
   rw [dif_neg (by simp)]
  rw [hnew]
  simp only [bdw,Rel]
  exact ⟨_,ety,xs,T,rfl,h2,h3,h4,h5,h6,fun i y hy=>by simp at hy⟩
 ·have hpos:0 < x.length:=by omega
  letI:=awb hpos
  rcases h2 with ⟨hxl,⟨h0,_⟩ | ⟨g0,off,c,cur,rfl,k1,k2,k3,k4,k5⟩⟩
  ·exact absurd h0 hn
  have hgl:=(Array.getElem?_eq_some_iff.1 k1).1
  have hr:S g0:=h4 g0 rfl
  have hT:∀ i b,T i b->S b/\b ≠ g0:=fun i b hb=>⟨(h5 i b hb).1,fun e=>(h5 i b hb).2 (by rw [e];rfl)⟩
  let enc:Fin x.length->List Value:=fun i=>(xs.drop (i.1 * e.size)).take e.size
  have hrow:∀ i:Fin x.length,Rel A w e (x.get i) (T i.1) (enc i):=fun i=>h7 i.1 _ (List.getElem?_eq_getElem _)
  have hk:∀ i,(enc i).length=e.size:=fun i=>Rel.len _ _ _ _ (hrow i)
  have hone:∀ i,∀ v ∈ enc i,v.oneCell'=true:=fun i=>Rel.one _ _ _ _ (hrow i)
  have hA':∀ b,(A b\/S b/\b ≠ g0)->b < w.heap.size/\b ≠ g0:=fun b hb=>hb.elim (fun h=>⟨hA b h,fun e=>(hS g0 hr).2 (e ▸ h)⟩) fun h=>⟨(hS b h.1).1,h.2⟩
  have hcmp:Proofs.CmpLays P g cv.toArray enc e.size (cfN (asz res (ah8 cs y.1)) x) g0 off (idN x.length).size w:=by
   intro m os dk hdk i j
   have hKeep:jc (fun b=>A b\/S b/\b ≠ g0) (fun b=>A b\/S b/\b ≠ g0) w (Proofs.sortWorldK enc e.size w g0 off m dk os):=fun b hb=>⟨hb,by
    obtain ⟨q1,q2⟩:=hA' b hb
    rw [awn k1 q1,if_neg q2]⟩
   have harg:∀ i:Fin x.length,aq (fun b=>A b\/S b/\b ≠ g0) (Proofs.sortWorldK enc e.size w g0 off m dk os) e.strip (x.get i) (enc i):=fun i=>
    aq.keep hKeep _ _ _ (Rel.frz (fun b hb=>.inl hb) e _ _ _ (fun b hb=>.inr (hT _ b hb)) (hrow i))
   have hc:=hg.2 (fun b=>A b\/S b/\b ≠ g0) (Proofs.sortWorldK enc e.size w g0 off m dk os) (.agg (enc i).toArray::.agg (enc j).toArray::cv) (x.get i,(x.get j,ah8 cs y.1)) (fun b hb=>Nat.lt_of_lt_of_le (hA' b hb).1 axh)
    ⟨_,_,enc i,rfl,fun _=>rfl,(fun h=>by cases h),harg i,_,_,enc j,rfl,fun _=>rfl,(fun h=>by cases h),harg j,ar6 hKeep _ _ _ _ (ar6 (fun b hb=>⟨.inl hb,rfl⟩) _ _ _ _ (beu cs hcs y.1 cv hcF))⟩ (hp _ (List.get_mem x i) _ (List.get_mem x j))
   have harr:(#[.agg (enc i).toArray,.agg (enc j).toArray]++cv.toArray:Array Value)=(.agg (enc i).toArray::.agg (enc j).toArray::cv:List Value).toArray:=by simp
   rw [harr]
   refine hc.mono ?_
   rintro e' w' ⟨rs,S',rfl,hext,_,hres⟩
   refine ⟨?_,blq hext⟩
   obtain ⟨u,us',vs,S1,S2,q1,_,q3,_,_,_,q7,q8⟩:=hres
   have q8:us'=[]:=q8
   rw [q3 rfl]at q7
   simp only [Rel,aq]at q7
   subst q1;subst q8
   simp only [List.cons.injEq,and_true]at q7
   rw [q7.1]
   rfl
  have hH:Sort.HoldsK enc e.size w g0 off (idN x.length):=by
   intro t ht
   rw [Sort.size_flatK,qp]at ht
   have hlt:t < xs.length:=by rw [hxl];exact ht
   have k0:0 < e.size:=by
    rcases Nat.eq_zero_or_pos e.size with h | h
    ·rw [h]at ht;simp at ht
    ·exact h
   have hdiv:t / e.size < x.length:=(Nat.div_lt_iff_lt_mul k0).2 ht
   have hmod:=Nat.mod_lt t k0
   have hval:(Sort.flatK enc e.size (idN x.length))[t]! = xs[t]:=by
    rw [Sort.get_flatK enc e.size _ t (by rw [qp];exact ht),bn9 hdiv]
    rw [getElem!_pos (enc ⟨t / e.size,hdiv⟩) _ (by rw [hk];exact hmod)]
    simp only [enc,List.getElem_take,List.getElem_drop]
    congr 1
    rw [Nat.mul_comm]
    exact Nat.div_add_mod _ _
   refine ⟨?_,by simp [World.frozen?,k1]⟩
   rw [hval]
   have:=asw k1 k5 t xs[t] (List.getElem?_eq_getElem hlt)
   rw [Addr.add_lit]at this
   exact this
  have hsz:(idN x.length).size < 4611686018427387904:=by
   rw [qp]
   have:nb=140737488355328:=rfl
   omega
  have hfin:=Proofs.AnyQ.slices_SortFunc_eq L e.size aE zE enc hk hone (cfN (asz res (ah8 cs y.1)) x) (bh8 hs) g cv.toArray g0 off (c+1) (idN x.length) w hg.1 hcmp hH hgl hsz
  rw [qp]at hfin
  obtain ⟨f1,f2⟩:=bjz hs hpos
  refine hfin.mono ?_
  rintro e' w' ⟨rfl,m,os,rfl⟩
  have hcl:cur.toList.length=cur.size:=Array.length_toList
  obtain ⟨r1,r2⟩:=bls (m:=m) (os:=os) (enc:=enc) hA hS hxl (cur:=cur.toList) (by simpa using k1) k2 k3 (by rw [hcl,k4]) h3 hr hT h6 h7 (fun _=>rfl) f1 f2
  refine ⟨[],fun _=>False,S,rfl,r1,fun _ h=>h.elim,fun b hb=>⟨.inl hb,fun h=>h⟩,?_,rfl⟩
  have hnew:(bdw e g cs pre res).new x y=(Sort.pdq (Proofs.ltOf (cfN (asz res (ah8 cs y.1)) x)) (idN x.length) 0 x.length (Lib.bitLen x.length) true true).toList.map x.get:=by
   show afm (asz res (ah8 cs y.1)) x=_
   unfold afm
   rw [dif_pos hpos]
  rw [hnew]
  exact r2
end
end Go.Bm
