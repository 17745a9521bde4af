/- The abstract machine that the walks of this claim go by: its data, its operations and the proof that each is sound. No condition. -/
import Derived.Test.YtfkeefladmafpaaMachOne
set_option linter.unusedVariables false
/- The abstract machine: stores. -/
namespace Go.Am
open Go.RowKit

section
variable {F : Fr} {p : Pl} {env : List (Nat × AV)} {M : List (Nat × AObj)} {a : Act} {w : World} {P : Program}

theorem Pl.upd_self (p : Pl) (k : Nat) : p.upd k (p.β k) (p.ρ k) = p := by
  cases p
  simp only [Pl.upd, Pl.mk.injEq]
  constructor
  · funext j; split
    · rename_i h; subst h; rfl
    · rfl
  · funext j; split
    · rename_i h; subst h; rfl
    · rfl

theorem RelL.keep_same {β : Nat → Value} {Im Im' : Nat → Prop} {w w' : World} (h : Keep Im Im' w w') (l : List AV) (vs : List Value) (r : RelL β Im w l vs) : RelL β Im' w' l vs := RelL.keep h l (fun _ _ => rfl) vs r

/-- cells of a box are written -/
theorem St.storeBox (h : St F p env M a w) (k : Nat) (ty' : TypeId) (l : List AV) (hk : go M k = some (.cells ty' l)) (b o : Nat) (hβ : p.β k = .pointer (some ⟨b, 0, none⟩)) (ls : List AV) (us : List Value)
    (hls : RelL p.β (Imm F p M w) w ls us) (h1 : ∀ u ∈ us, u.oneCell' = true) (hlen : o + ls.length ≤ l.length) :
    ∃ w', (storeCells ⟨b, o, none⟩ us 0).run P w = .ok () w' ∧ St F p env (setM k (.cells ty' (l.take o ++ ls ++ l.drop (o + ls.length))) M) a w' := by
  have hlk := go_live hk
  have hob := h.hp.objs k _ hk
  simp only [RelO] at hob
  obtain ⟨b', vs, hβ', hb, hl⟩ := hob
  obtain rfl : b = b' := by rw [hβ] at hβ'; simpa using hβ'
  have hvl := RelL.len l _ hl
  have hul := RelL.len ls _ hls
  have hrun := run_storeCells_at P b o ty' us 0 vs w hb (by simp at hvl ⊢; omega) h1
  simp only [Nat.add_zero, hul] at hrun
  refine ⟨_, hrun, ?_⟩
  have hg : w.grownBy (w.setRow b (vs.toList.take o ++ us ++ vs.toList.drop (o + ls.length)).toArray) (some b) := ⟨rfl, rfl, rfl, by simp, fun j _ hj => setRow_other w b j _ (fun e => hj (by rw [e]))⟩
  have := h.put k (p.β k) (p.ρ k) (setM k (.cells ty' (l.take o ++ ls ++ l.drop (o + ls.length))) M) hg (fun b' hb' => by cases hb'; exact ⟨hlk, by rw [hβ]; rfl⟩) (fun j hj => go_setM_ne _ hj M) (.inr rfl)
    (fun b' hb' => .inr ⟨hlk, hb'⟩) (fun b' hb' => by have := (h.hp.own k b' hlk hb').1; simpa using this) (fun b' hb' => ⟨(h.hp.priv k b' hlk hb').1, (h.hp.priv k b' hlk hb').2, fun j hj hlj hb2 => h.hp.apart k j b' (Ne.symm hj) hlk hlj hb' hb2⟩)
    (fun hkeep ob hob => by
      rw [go_setM_self _ M hlk] at hob
      cases hob
      rw [Pl.upd_self] at hkeep ⊢
      simp only [RelO]
      refine ⟨b, _, hβ, setRow_heap w b vs _ ty' (0, 0) hb, ?_⟩
      have r1 := RelL.keep_same hkeep _ _ (RelL.take o l _ hl)
      have r2 := RelL.keep_same hkeep _ _ hls
      have r3 := RelL.keep_same hkeep _ _ (RelL.drop (o + ls.length) l _ hl)
      exact RelL.append _ _ _ _ (RelL.append _ _ _ _ r1 r2) r3)
  rwa [Pl.upd_self] at this

theorem OwnC.set {S S' : Nat → Prop} {y : D} {u : Value} (hy : OwnD w y S' u) (hd : ∀ b, S' b → ¬ S b) : (l : List D) → (S0 : Nat → Prop) → (∀ b, S0 b → S b) → (vs : List Value) → (j : Nat) → OwnC w l S0 vs → OwnC w (l.set j y) (fun b => S0 b ∨ S' b) (vs.set j u)
  | [], S0, hS, vs, j, h => by simp only [OwnC] at h; subst h; simp [OwnC]
  | x :: r, S0, hS, vs, j, h => by
    simp only [OwnC] at h
    obtain ⟨v, us, S1, S2, rfl, h1, h2, h3, h4⟩ := h
    cases j with
    | zero =>
      simp only [List.set_cons_zero, OwnC]
      exact ⟨u, us, S', S2, rfl, fun b hb => ⟨.inr hb, fun hb2 => hd b hb (hS b (h2 b hb2))⟩, fun b hb => .inl (h2 b hb), hy, h4⟩
    | succ j =>
      simp only [List.set_cons_succ, OwnC]
      refine ⟨v, _, S1, fun b => S2 b ∨ S' b, rfl, fun b hb => ⟨.inl (h1 b hb).1, ?_⟩, ?_, h3, OwnC.set hy hd r S2 (fun b hb => hS b (h2 b hb)) us j h4⟩
      · rintro (hb2 | hb2)
        · exact (h1 b hb).2 hb2
        · exact hd b hb2 (hS b (h1 b hb).1)
      · rintro b (hb | hb)
        · exact .inl (h2 b hb)
        · exact .inr hb

theorem RelDs.set {Im : Nat → Prop} {y : D} {u : Value} (hy : RelD Im w y u) : (l : List D) → (vs : List Value) → (j : Nat) → RelDs Im w l vs → RelDs Im w (l.set j y) (vs.set j u)
  | [], vs, j, h => by simp only [RelDs] at h; subst h; simp [RelDs]
  | x :: r, vs, j, h => by
    simp only [RelDs] at h
    obtain ⟨v, us, rfl, hv, hr⟩ := h
    cases j with
    | zero => simp only [List.set_cons_zero, RelDs]; exact ⟨u, us, rfl, hy, hr⟩
    | succ j => simp only [List.set_cons_succ, RelDs]; exact ⟨v, _, rfl, hv, RelDs.set hy r us j hr⟩

/-- one cell of one row written -/
def setF (f : Nat → List D) (i j : Nat) (y : D) : Nat → List D := fun i' => if i' = i then (f i).set j y else f i'

theorem row_set {xs : List Value} {sz i j i' : Nat} {u : Value} (hj : j < sz) : ((xs.set (i * sz + j) u).drop (i' * sz)).take sz = if i' = i then (((xs.drop (i * sz)).take sz).set j u) else ((xs.drop (i' * sz)).take sz) := by
  by_cases e : i' = i
  · subst e
    rw [if_pos rfl]
    apply List.ext_getElem?
    intro q
    simp only [List.getElem?_take, List.getElem?_drop, List.getElem?_set]
    by_cases hq : q < sz
    · simp only [if_pos hq, List.length_take, List.length_drop]
      by_cases hjq : j = q
      · subst hjq
        simp only [if_true]
        by_cases hlt : i' * sz + j < xs.length
        · rw [if_pos hlt, if_pos (by omega)]
        · rw [if_neg hlt, if_neg (by omega)]
      · rw [if_neg (by omega), if_neg hjq]
    · simp only [if_neg hq]
      by_cases hjq : j = q
      · omega
      · rw [if_neg hjq]
  · rw [if_neg e]
    apply List.ext_getElem?
    intro q
    simp only [List.getElem?_take, List.getElem?_drop, List.getElem?_set]
    by_cases hq : q < sz
    · simp only [if_pos hq]
      rw [if_neg]
      intro h
      rcases Nat.lt_or_gt_of_ne e with hlt | hlt
      · have := Nat.mul_le_mul_right sz (show i' + 1 ≤ i from hlt); rw [Nat.add_mul] at this; omega
      · have := Nat.mul_le_mul_right sz (show i + 1 ≤ i' from hlt); rw [Nat.add_mul] at this; omega
    · simp only [if_neg hq]

/-- one cell of a slice of the call's own is written -/
theorem St.storeElt (h : St F p env M a w) (k : Nat) (fr : Bool) (e : TypeId) (sz n : Nat) (f : Nat → List D) (x : AV) (y : D) (ks : List Nat) (frx : Bool) (hcs : cellsD M [x] = some ([y], ks, frx)) (hkk : k ∉ ks) (hgid : ∀ j, j ∈ ks → j < gid)
    (hk : go M k = some (.arr fr e sz n f)) (i j : Nat) (hi : i < n) (hj : j < sz) (b : Nat) (n' cap : Nat) (hβ : p.β k = .slice (some ⟨b, 0, none⟩) n' cap) (u : Value) (hu : RelV p.β (Imm F p M w) w x u) (h1 : u.oneCell' = true) :
    ∃ w' r, (store ⟨b, i * sz + j, none⟩ u).run P w = .ok () w' ∧ St F (p.upd k (p.β k) r) (killEs ks env) (setM k (.arr (fr && frx) e sz n (setF f i j y)) (delMs ks M)) a w' := by
  have hlk := go_live hk
  have h' := h.dels ks
  have hlk' : Live (delMs ks M) k := live_delMs.2 ⟨hkk, hlk⟩
  have hgo : ∀ (q : List Nat) (M' : List (Nat × AObj)), k ∉ q → go M' k = some (.arr fr e sz n f) → go (delMs q M') k = some (.arr fr e sz n f) := by
    intro q
    induction q with
    | nil => intro M' _ hm; exact hm
    | cons c q ih =>
      intro M' hq hm
      simp only [List.mem_cons, not_or] at hq
      refine ih (delM c M') hq.2 ?_
      rw [go_delM_ne hq.1, hm]; rfl
  have hk' := hgo ks M hkk hk
  have hρi : ∀ b, p.ρ k b → Imm F p (delMs ks M) w b := fun b hb => (h'.hp.priv k b hlk' hb).1
  obtain ⟨xs, hown, hn, hrel, hT⟩ := (h'.hp.objs k _ hk').arr_rel hρi
  have hnn : n' = n := by
    rcases hown.2 with ⟨hv, hn0⟩ | ⟨g, cap', cur, hv, _⟩
    · omega
    · rw [hβ] at hv; simp at hv; exact hv.2.1
  subst hnn
  have hlt : i * sz + j < n' * sz := by have := Nat.mul_le_mul_right sz (show i + 1 ≤ n' from hi); rw [Nat.add_mul] at this; omega
  rw [hβ] at hown
  have hcell : w.cell? ⟨b, i * sz + j, none⟩ = xs[i * sz + j]? := hown.cellAt _ hlt
  have hfro := hown.frozenAt (i * sz + j)
  have hrun : (store ⟨b, i * sz + j, none⟩ u).run P w = .ok () (w.setCell ⟨b, i * sz + j, none⟩ u) := by
    rw [run_store P w _ u _ h1, hcell, List.getElem?_eq_getElem (by rw [hown.1]; exact hlt)]
    simp [hfro]
  obtain ⟨hown', hg⟩ := hown.stored (i * sz + j) u
  rw [← hβ] at hown'
  have hroot : root (p.β k) = some b := by rw [hβ]; rfl
  have hlive := cellsD_live [x] hcs
  have hrelx : RelL p.β (Imm F p M w) w [x] [u] := by simp only [RelL]; exact ⟨u, [], rfl, hu, rfl⟩
  have hsame : ∀ b', root (p.β k) = some b' → w.heap.size ≤ b' ∨ Live (delMs ks M) k ∧ root (p.β k) = some b' := fun b' hb' => .inr ⟨hlk', hb'⟩
  have hlt' : ∀ b', root (p.β k) = some b' → b' < (w.setCell ⟨b, i * sz + j, none⟩ u).heap.size := fun b' hb' => by have := (h.hp.own k b' hlk hb').1; simpa using this
  have hnd : ks.Nodup := by
    cases x <;> simp only [cellsD, Option.map_some, Option.some.injEq, Prod.mk.injEq, reduceCtorEq] at hcs
    · rw [← hcs.2.1]; exact List.nodup_nil
    · split at hcs
      · simp only [Option.some.injEq, Prod.mk.injEq] at hcs
        rw [← hcs.2.1]; simp
      · cases hcs
  by_cases hfr : (fr && frx) = true
  · rw [hfr]
    simp only [Bool.and_eq_true] at hfr
    obtain ⟨rfl, rfl⟩ := hfr
    obtain ⟨T, q3, q4, q5⟩ := hT rfl
    have hownx := cellsD_own h.hp [x] [u] hcs rfl hnd hrelx
    simp only [OwnC] at hownx
    obtain ⟨u', us', S1, S2, he, s1, _, hoy, _⟩ := hownx
    simp only [List.cons.injEq] at he
    obtain ⟨rfl, _⟩ := he
    have hblk : ∀ b', Blks p ks b' → Imm F p (delMs ks M) w b' ∧ F.w0.heap.size ≤ b' ∧ ∀ q, q ∉ ks → Live M q → root (p.β q) ≠ some b' ∧ ¬ p.ρ q b' := fun b' hb' =>
      ⟨blks_imm_del h.hp hlive hgid hb' (fun _ _ _ _ => trivial), (blks_imm h.hp hlive hgid hb' trivial).2⟩
    refine ⟨_, fun b' => p.ρ k b' ∨ Blks p ks b', hrun, h'.put k (p.β k) _ _ hg (fun b' hb' => by cases hb'; exact ⟨hlk', hroot⟩) (fun q hq => go_setM_ne _ hq _) (.inr rfl) hsame hlt' (fun b' hb' => ?_) (fun hkeep ob hob => ?_)⟩
    · rcases hb' with hb' | hb'
      · have := h'.hp.priv k b' hlk' hb'
        exact ⟨this.1, this.2, fun q hq hlq hb2 => h'.hp.apart k q b' (Ne.symm hq) hlk' hlq hb' hb2⟩
      · have := hblk b' hb'
        exact ⟨this.1, this.2.1, fun q _ hlq => (this.2.2 q (live_delMs.1 hlq).1 (live_delMs.1 hlq).2).2⟩
    · rw [go_setM_self _ _ hlk'] at hob
      cases hob
      simp only [RelO]
      refine ⟨_, fun i' b' => T i' b' ∨ (i' = i ∧ Blks p ks b'), hown', hn, ?_, ?_, ?_⟩
      · rintro i' b' (hb' | ⟨_, hb'⟩)
        · exact .inl (q3 i' b' hb')
        · exact .inr hb'
      · rintro i1 i2 b' hne (hb1 | ⟨e1, hb1⟩) (hb2 | ⟨e2, hb2⟩)
        · exact q4 i1 i2 b' hne hb1 hb2
        · exact ((hblk b' hb2).2.2 k hkk hlk).2 (q3 i1 b' hb1)
        · exact ((hblk b' hb1).2.2 k hkk hlk).2 (q3 i2 b' hb2)
        · exact hne (e1.trans e2.symm)
      · intro i' hi'
        rw [row_set hj]
        by_cases e' : i' = i
        · subst e'
          rw [if_pos rfl]
          simp only [setF, if_true]
          have hrow := OwnC.keep (w' := w.setCell ⟨b, i' * sz + j, none⟩ u) _ _ (fun b' hb' => (hkeep b' (hρi b' (q3 i' b' hb'))).2) _ (q5 i' hi')
          have hy' := OwnD.keep (w' := w.setCell ⟨b, i' * sz + j, none⟩ u) y S1 (fun b' hb' => (hkeep b' (hblk b' (s1 b' hb').1).1).2) u hoy
          have := OwnC.set (S := T i') hy' (fun b' hb' hb2 => ((hblk b' (s1 b' hb').1).2.2 k hkk hlk).2 (q3 i' b' hb2)) _ (T i') (fun _ h => h) _ j hrow
          exact OwnC.wide _ _ _ (fun b' hb' => hb'.elim .inl (fun hb2 => .inr ⟨trivial, (s1 b' hb2).1⟩)) _ this
        · rw [if_neg e']
          simp only [setF, if_neg e']
          exact OwnC.wide _ (T i') _ (fun b' hb' => .inl hb') _ (OwnC.keep _ _ (fun b' hb' => (hkeep b' (hρi b' (q3 i' b' hb'))).2) _ (q5 i' hi'))
  · have hfr' : (fr && frx) = false := by simpa using hfr
    rw [hfr']
    refine ⟨_, fun _ => False, hrun, h'.put k (p.β k) _ _ hg (fun b' hb' => by cases hb'; exact ⟨hlk', hroot⟩) (fun q hq => go_setM_ne _ hq _) (.inr rfl) hsame hlt' (fun b' hb' => hb'.elim) (fun hkeep ob hob => ?_)⟩
    rw [go_setM_self _ _ hlk'] at hob
    cases hob
    have hx := cellsD_rel h.hp (Imm F p (delMs ks M) w) (fun b' hb' => imm_delMs hb') [x] [u] hcs (fun q b' hq hb' => ?_) hrelx
    · simp only [RelDs] at hx
      obtain ⟨u', us', he, hy, _⟩ := hx
      simp only [List.cons.injEq] at he
      obtain ⟨rfl, _⟩ := he
      simp only [RelO]
      refine ⟨_, hown', hn, fun i' hi' => ?_⟩
      rw [row_set hj]
      by_cases e' : i' = i
      · subst e'
        rw [if_pos rfl]
        simp only [setF, if_true]
        exact RelDs.set (RelD.keep hkeep y u hy) _ _ j (RelDs.keep hkeep _ _ (hrel i' hi'))
      · rw [if_neg e']
        simp only [setF, if_neg e']
        exact RelDs.keep hkeep _ _ (hrel i' hi')
    · obtain ⟨g1, g2⟩ := h.hp.own q b' (hlive q hq) hb'
      refine ⟨g1, ?_, fun q' hq' => h.hp.sep q q' b' (fun e => (live_delMs.1 hq').1 (e ▸ hq)) (hlive q hq) (live_delMs.1 hq').2 hb'⟩
      rcases g2 with g2 | g2
      · exact .inr (.inl g2.2)
      · exact .inr (.inr g2)

end
end Go.Am

/- The abstract machine: calls. -/
namespace Go.Am
open Go.RowKit

/-- What may be read at all. -/
def All (F : Fr) (w : World) : Nat → Prop := fun b => b < w.heap.size ∧ (F.A b ∨ F.R b ∨ F.w0.heap.size ≤ b)

def view1 (M : List (Nat × AObj)) : AV → D
  | .d x => x
  | .own k => (match go M k with | some (.arr _ _ sz n f) => .seq sz n f | _ => .any)
  | _ => .any

/-- An argument, as the callee may read it. -/
def viewA (M : List (Nat × AObj)) : AV → AV
  | .d x => .d x
  | .own k => .d (view1 M (.own k))
  | .box k o => (match go M k with | some (.cells _ l) => .d (.ptr ((l.drop o).map (view1 M))) | _ => .any)
  | .agg l => .agg (l.map fun x => .d (view1 M x))
  | .tup l => .tup (l.map fun x => .d (view1 M x))
  | _ => .any

section
variable {F : Fr} {p : Pl} {env : List (Nat × AV)} {M : List (Nat × AObj)} {a : Act} {w : World} {P : Program}

theorem imm_all (b : Nat) (h : Imm F p M w b) : All F w b := ⟨h.1, h.2.1⟩
theorem root_all (hp : Hp F p M w) {k b : Nat} (hl : Live M k) (h : root (p.β k) = some b) : All F w b := by
  obtain ⟨h1, h2⟩ := hp.own k b hl h
  exact ⟨h1, h2.elim (fun h => .inr (.inl h.2)) (fun h => .inr (.inr h))⟩

theorem view1_ok (hp : Hp F p M w) (x : AV) (u : Value) (h : RelV p.β (Imm F p M w) w x u) : RelD (All F w) w (view1 M x) u := by
  cases x with
  | d y => simp only [RelV] at h; exact RelD.keep (fun b hb => ⟨imm_all b hb, rfl⟩) y u h
  | own k =>
    simp only [RelV] at h
    subst h
    simp only [view1]
    cases hg : go M k with
    | none => simp only [RelD]
    | some o =>
      cases o with
      | cells ty l => simp only [RelD]
      | arr fr e sz n f => exact arr_view hp hg (All F w) imm_all (fun b hb => root_all hp (go_live hg) hb)
  | any => simp only [view1, RelD]
  | box k o => simp only [view1, RelD]
  | elt k s i j => simp only [view1, RelD]
  | agg l => simp only [view1, RelD]
  | tup l => simp only [view1, RelD]
  | gd q v => simp only [view1, RelD]
  | fn f l => simp only [view1, RelD]

theorem view1s_ok (hp : Hp F p M w) (β : Nat → Value) : (l : List AV) → (vs : List Value) → RelL p.β (Imm F p M w) w l vs → RelL β (All F w) w (l.map fun x => .d (view1 M x)) vs
  | [], vs, h => by simpa only [RelL, List.map_nil] using h
  | x :: l, vs, h => by
    simp only [RelL] at h
    obtain ⟨u, us, rfl, hu, hr⟩ := h
    simp only [List.map_cons, RelL]
    exact ⟨u, us, rfl, by simp only [RelV]; exact view1_ok hp x u hu, view1s_ok hp β l us hr⟩

theorem view1s_cells (hp : Hp F p M w) {b : Nat} {cs : Array Value} {ty' : TypeId} (hb : w.heap[b]? = some (.cells cs ty' (0, 0))) : (l : List AV) → (o : Nat) → RelL p.β (Imm F p M w) w l (cs.toList.drop o) → RelC (All F w) w (l.map (view1 M)) b o
  | [], o, h => by simp only [List.map_nil, RelC]
  | x :: l, o, h => by
    simp only [RelL] at h
    obtain ⟨u, us, he, hu, hr⟩ := h
    have h0 : cs.toList[o]? = some u := by have := congrArg (fun q : List Value => q[0]?) he; simpa using this
    have h1 : cs.toList.drop (o + 1) = us := by have := congrArg (fun q : List Value => q.drop 1) he; simpa [List.drop_drop] using this
    simp only [List.map_cons, RelC]
    refine ⟨⟨u, by rw [cell_of_row w b o cs ty' (0, 0) hb]; simpa using h0, view1_ok hp x u hu⟩, view1s_cells hp hb l (o + 1) (by rw [h1]; exact hr)⟩

theorem viewA_ok (hp : Hp F p M w) (β : Nat → Value) (x : AV) (u : Value) (h : RelV p.β (Imm F p M w) w x u) : RelV β (All F w) w (viewA M x) u := by
  cases x with
  | d y => simp only [viewA, RelV]; exact view1_ok hp (.d y) u h
  | own k => simp only [viewA, RelV]; exact view1_ok hp (.own k) u h
  | agg l =>
    simp only [RelV] at h
    obtain ⟨vs, rfl, hl⟩ := h
    simp only [viewA, RelV]
    exact ⟨vs, rfl, view1s_ok hp β l vs hl⟩
  | tup l =>
    simp only [RelV] at h
    obtain ⟨vs, rfl, hl⟩ := h
    simp only [viewA, RelV]
    exact ⟨vs, rfl, view1s_ok hp β l vs hl⟩
  | box k o =>
    simp only [RelV] at h
    obtain ⟨b, hβ, rfl⟩ := h
    simp only [viewA]
    cases hg : go M k with
    | none => simp only [RelV]
    | some ob =>
      cases ob with
      | arr fr e sz n f => simp only [RelV]
      | cells ty' l =>
        have hob := hp.objs k _ hg
        simp only [RelO] at hob
        obtain ⟨b', vs, hβ', hb, hl⟩ := hob
        obtain rfl : b = b' := by rw [hβ] at hβ'; simpa using hβ'
        simp only [RelV, RelD]
        exact ⟨b, o, rfl, root_all hp (go_live hg) (by rw [hβ]; rfl), view1s_cells hp hb (l.drop o) o (RelL.drop o l _ hl)⟩
  | any => simp only [viewA, RelV]
  | elt k s i j => simp only [viewA, RelV]
  | gd q v => simp only [viewA, RelV]
  | fn f l => simp only [viewA, RelV]

end

/-! ### the contract of a function -/

def fr0 (sh : Bool) (A : Nat → Prop) (w : World) : Fr := ⟨w, fun b => sh = true ∧ A b, fun _ => False, 0, 0, fun _ => undef⟩

/-- The call is entered. -/
def Callable (P : Program) (f : FuncId) : Prop := ∀ args w, (callFunc f args).run P w = .ok (.enter f args) w

theorem callable_of {P : Program} {f : FuncId} {fn : Func} {c : Code} (hf : P.funcs[f]? = some fn) (hb : fn.body = some c) (hn : (fn.name == "runtime.NumGoroutine") = false) : Callable P f := by
  intro args w
  have h : ¬ fn.name = "runtime.NumGoroutine" := by simpa using hn
  simp [callFunc, hf, hb, h]

/-- Called with these arguments, the function returns this, in these new objects; 'sh': data of the arguments may be shared. -/
def Spec (P : Program) (f : FuncId) (args : List AV) (sh : Bool) (res : AV) (objs : List (Nat × AObj)) : Prop :=
  Callable P f ∧ ∀ (A : Nat → Prop) (w : World) (β : Nat → Value) (vs : List Value), (∀ b, A b → b < w.heap.size) → RelL β A w args vs →
    Calls P f vs.toArray w fun e w' => ∃ v p', e = .returned v ∧ RelV p'.β (Imm (fr0 sh A w) p' objs w') w' res v ∧ Hp (fr0 sh A w) p' objs w'

mutual
def AV.ren (ks : List Nat) (g : Nat → Nat) : AV → AV
  | .any => .any
  | .d x => .d x
  | .own j => if j ∈ ks then .own (g j) else .any
  | .box j o => if j ∈ ks then .box (g j) o else .any
  | .elt j s i c => if j ∈ ks then .elt (g j) s i c else .any
  | .agg l => .agg (AV.renL ks g l)
  | .tup l => .tup (AV.renL ks g l)
  | .gd p v => .gd p (v.ren ks g)
  | .fn f l => .fn f (AV.renL ks g l)
def AV.renL (ks : List Nat) (g : Nat → Nat) : List AV → List AV
  | [] => []
  | x :: r => x.ren ks g :: AV.renL ks g r
end

mutual
theorem RelV.ren {β β' : Nat → Value} {Im Im' : Nat → Prop} {w w' : World} {ks : List Nat} {g : Nat → Nat} (hg : ∀ k, k ∈ ks → β' (g k) = β k) (hk : Keep Im Im' w w') : (x : AV) → (v : Value) → RelV β Im w x v → RelV β' Im' w' (x.ren ks g) v
  | .any, v, r => by simp only [AV.ren, RelV]
  | .d x, v, r => by simp only [AV.ren, RelV] at r ⊢; exact RelD.keep hk x v r
  | .own j, v, r => by
    by_cases h : j ∈ ks
    · simp only [AV.ren, if_pos h, RelV] at r ⊢; rw [hg j h]; exact r
    · simp only [AV.ren, if_neg h, RelV]
  | .box j o, v, r => by
    by_cases h : j ∈ ks
    · simp only [AV.ren, if_pos h, RelV] at r ⊢; rw [hg j h]; exact r
    · simp only [AV.ren, if_neg h, RelV]
  | .elt j s i c, v, r => by
    by_cases h : j ∈ ks
    · simp only [AV.ren, if_pos h, RelV] at r ⊢; rw [hg j h]; exact r
    · simp only [AV.ren, if_neg h, RelV]
  | .agg l, v, r => by
    simp only [AV.ren, RelV] at r ⊢
    obtain ⟨vs, hv, hl⟩ := r
    exact ⟨vs, hv, RelL.ren hg hk l vs hl⟩
  | .tup l, v, r => by
    simp only [AV.ren, RelV] at r ⊢
    obtain ⟨vs, hv, hl⟩ := r
    exact ⟨vs, hv, RelL.ren hg hk l vs hl⟩
  | .gd p x, v, r => by
    simp only [AV.ren, RelV] at r ⊢
    exact ⟨fun hp => RelV.ren hg hk x v (r.1 hp), r.2⟩
  | .fn f l, v, r => by
    simp only [AV.ren, RelV] at r ⊢
    obtain ⟨vs, hv, hl⟩ := r
    exact ⟨vs, hv, RelL.ren hg hk l vs hl⟩
theorem RelL.ren {β β' : Nat → Value} {Im Im' : Nat → Prop} {w w' : World} {ks : List Nat} {g : Nat → Nat} (hg : ∀ k, k ∈ ks → β' (g k) = β k) (hk : Keep Im Im' w w') : (l : List AV) → (vs : List Value) → RelL β Im w l vs → RelL β' Im' w' (AV.renL ks g l) vs
  | [], vs, r => by simpa only [AV.renL, RelL] using r
  | x :: l, vs, r => by
    simp only [AV.renL, RelL] at r ⊢
    obtain ⟨u, us, hv, hx, hr⟩ := r
    exact ⟨u, us, hv, RelV.ren hg hk x u hx, RelL.ren hg hk l us hr⟩
end

def AObj.ren (ks : List Nat) (g : Nat → Nat) : AObj → AObj
  | .arr fr e sz n f => .arr fr e sz n f
  | .cells ty l => .cells ty (AV.renL ks g l)

theorem RelO.ren {β β' : Nat → Value} {ρ Im Im' : Nat → Prop} {w w' : World} {ks : List Nat} {g : Nat → Nat} (hg : ∀ k, k ∈ ks → β' (g k) = β k) (hk : Keep Im Im' w w') (hρ : ∀ b, ρ b → Im b) (o : AObj) (v : Value)
    (hr : ∀ b, root v = some b → w'.heap[b]? = w.heap[b]?) (r : RelO β ρ Im w o v) : RelO β' ρ Im' w' (o.ren ks g) v := by
  match o, r with
  | .arr true e sz n f, r => simpa only [AObj.ren] using RelO.keep (β' := β') hk hρ (.arr true e sz n f) (fun k h => by cases h) v hr r
  | .arr false e sz n f, r => simpa only [AObj.ren] using RelO.keep (β' := β') hk hρ (.arr false e sz n f) (fun k h => by cases h) v hr r
  | .cells ty l, r =>
    simp only [AObj.ren, RelO] at r ⊢
    obtain ⟨b, vs, hv, hb, hl⟩ := r
    exact ⟨b, vs, hv, by rw [hr b (by rw [hv]; rfl)]; exact hb, RelL.ren hg hk l _ hl⟩

/-- The number that the caller gives to object j of a call whose result goes to slot d. -/
def cid (d j : Nat) : Nat := 100000 + 100 * d + j

def keysM (M : List (Nat × AObj)) : List Nat := M.map (·.1)
def renM (d : Nat) (ks : List Nat) : List (Nat × AObj) → List (Nat × AObj)
  | [] => []
  | (j, o) :: r => (cid d j, o.ren ks (cid d)) :: renM d ks r

theorem live_keys {k : Nat} : {M : List (Nat × AObj)} → (Live M k ↔ k ∈ keysM M)
  | [] => by simp [Live, go, keysM]
  | (j, o) :: r => by
    have := live_keys (k := k) (M := r)
    unfold Live at this ⊢
    simp only [go, keysM, List.map_cons, List.mem_cons] at this ⊢
    by_cases h : j = k
    · simp [h]
    · rw [if_neg h, this]; simp [Ne.symm h]

theorem go_renM_cid (d : Nat) (ks : List Nat) (j : Nat) : (M : List (Nat × AObj)) → go (renM d ks M) (cid d j) = (go M j).map (AObj.ren ks (cid d))
  | [] => rfl
  | (i, o) :: r => by
    simp only [renM, go]
    by_cases h : i = j
    · subst h; simp
    · rw [if_neg h, if_neg (by unfold cid; omega)]
      exact go_renM_cid d ks j r

theorem go_renM_none {d : Nat} {ks : List Nat} {k : Nat} : {M : List (Nat × AObj)} → (∀ j, j ∈ keysM M → k ≠ cid d j) → go (renM d ks M) k = none
  | [], _ => rfl
  | (i, o) :: r, h => by
    simp only [renM, go]
    rw [if_neg (Ne.symm (h i (by simp [keysM])))]
    exact go_renM_none (fun j hj => h j (by simp only [keysM, List.map_cons, List.mem_cons]; exact .inr hj))

theorem go_append {k : Nat} {M' : List (Nat × AObj)} : {M : List (Nat × AObj)} → go (M ++ M') k = (match go M k with | some o => some o | none => go M' k)
  | [] => rfl
  | (i, o) :: r => by
    simp only [List.cons_append, go]
    split
    · rfl
    · exact go_append

/-- Which object of a call has this number? -/
def isCid (d : Nat) (ks : List Nat) (k : Nat) : Prop := ∃ j, j ∈ ks ∧ k = cid d j

theorem cid_inj {d i j : Nat} (h : cid d i = cid d j) : i = j := by unfold cid at h; omega

mutual
theorem AV.kill_has (k j : Nat) : (x : AV) → (x.kill j).has k = true → x.has k = true
  | .any, h => by simp [AV.kill, AV.has] at h
  | .d x, h => by simp [AV.kill, AV.has] at h
  | .own i, h => by
    by_cases e : i = j
    · simp [AV.kill, e, AV.has] at h
    · simpa [AV.kill, e] using h
  | .box i o, h => by
    by_cases e : i = j
    · simp [AV.kill, e, AV.has] at h
    · simpa [AV.kill, e] using h
  | .elt i s q c, h => by
    by_cases e : i = j
    · simp [AV.kill, e, AV.has] at h
    · simpa [AV.kill, e] using h
  | .agg l, h => by simp only [AV.kill, AV.has] at h ⊢; exact AV.killL_has k j l h
  | .tup l, h => by simp only [AV.kill, AV.has] at h ⊢; exact AV.killL_has k j l h
  | .gd p v, h => by simp only [AV.kill, AV.has] at h ⊢; exact AV.kill_has k j v h
  | .fn f l, h => by simp only [AV.kill, AV.has] at h ⊢; exact AV.killL_has k j l h
theorem AV.killL_has (k j : Nat) : (l : List AV) → AV.hasL k (AV.killL j l) = true → AV.hasL k l = true
  | [], h => by simp [AV.killL, AV.hasL] at h
  | x :: r, h => by
    simp only [AV.killL, AV.hasL, Bool.or_eq_true] at h ⊢
    exact h.imp (AV.kill_has k j x) (AV.killL_has k j r)
end

theorem killEs_has {k t : Nat} : {ks : List Nat} → {env : List (Nat × AV)} → (gt (killEs ks env) t).has k = true → k ∉ ks ∧ (gt env t).has k = true
  | [], env, h => ⟨by simp, h⟩
  | j :: ks, env, h => by
    simp only [killEs] at h
    obtain ⟨h1, h2⟩ := killEs_has (ks := ks) h
    rw [gt_killE] at h2
    refine ⟨?_, AV.kill_has k j _ h2⟩
    simp only [List.mem_cons, not_or]
    refine ⟨?_, h1⟩
    rintro rfl
    rw [AV.has_kill] at h2
    cases h2

theorem delMs_has {k j : Nat} : {ks : List Nat} → {M : List (Nat × AObj)} → {o : AObj} → go (delMs ks M) j = some o → o.has k = true → k ∉ ks
  | [], M, o, h, ho => by simp
  | i :: ks, M, o, h, ho => by
    simp only [delMs] at h
    have h1 := delMs_has (ks := ks) h ho
    simp only [List.mem_cons, not_or]
    refine ⟨?_, h1⟩
    rintro rfl
    have key : ∀ (ks : List Nat) (M : List (Nat × AObj)) (o : AObj), (∀ q o', go M q = some o' → o'.has k = false) → go (delMs ks M) j = some o → o.has k = false := by
      intro ks
      induction ks with
      | nil => intro M o hM hgo; exact hM j o hgo
      | cons c ks ih =>
        intro M o hM hgo
        refine ih (delM c M) o (fun q o' hq => ?_) hgo
        by_cases e : q = c
        · subst e; rw [go_delM_self] at hq; cases hq
        · rw [go_delM_ne e] at hq
          cases hx : go M q with
          | none => rw [hx] at hq; cases hq
          | some o2 =>
            rw [hx] at hq
            simp only [Option.map_some, Option.some.injEq] at hq
            subst hq
            have := hM q o2 hx
            cases o2 with
            | arr => rfl
            | cells ty l =>
              simp only [AObj.kill, AObj.has] at this ⊢
              cases hh : AV.hasL k (AV.killL c l) with
              | false => rfl
              | true => rw [AV.killL_has k c l hh] at this; cases this
    have := key ks (delM k M) o (fun q o' hq => ?_) h
    · rw [this] at ho; cases ho
    · by_cases e : q = k
      · subst e; rw [go_delM_self] at hq; cases hq
      · rw [go_delM_ne e] at hq
        cases hx : go M q with
        | none => rw [hx] at hq; cases hq
        | some o2 =>
          rw [hx] at hq
          simp only [Option.map_some, Option.some.injEq] at hq
          subst hq
          exact AObj.has_kill k o2

section
variable {F : Fr} {p : Pl} {env : List (Nat × AV)} {M : List (Nat × AObj)} {a : Act} {w : World} {P : Program}

/-- Behind a call. -/
theorem St.call (h : St F p env M a w) (d : Nat) {sh : Bool} {A : Nat → Prop} (hA : sh = true → ∀ b, A b → Imm F p M w b) {p' : Pl} {objs : List (Nat × AObj)} {w' : World} {res : AV} {v : Value}
    (hp' : Hp (fr0 sh A w) p' objs w') (hres : RelV p'.β (Imm (fr0 sh A w) p' objs w') w' res v) :
    ∃ q : Pl, St F q (killEs ((keysM objs).map (cid d)) env) (renM d (keysM objs) objs ++ delMs ((keysM objs).map (cid d)) M) a w' ∧
      RelV q.β (Imm F q (renM d (keysM objs) objs ++ delMs ((keysM objs).map (cid d)) M) w') w' (res.ren (keysM objs) (cid d)) v ∧
      ∀ k, Live M k → k ∉ (keysM objs).map (cid d) → Live (renM d (keysM objs) objs ++ delMs ((keysM objs).map (cid d)) M) k ∧ q.β k = p.β k := by
  classical
  have h1 := h.dels ((keysM objs).map (cid d))
  have hk0 : Keep (Imm F p M w) (Imm F p (delMs ((keysM objs).map (cid d)) M) w) w w := fun b hb => ⟨imm_delMs hb, rfl⟩
  have henvk : ∀ t j, j ∈ keysM objs → (gt (killEs ((keysM objs).map (cid d)) env) t).has (cid d j) = true → False := fun t j hj hh => (killEs_has hh).1 (List.mem_map_of_mem hj)
  have hMk : ∀ i o j, j ∈ keysM objs → go (delMs ((keysM objs).map (cid d)) M) i = some o → o.has (cid d j) = true → False := fun i o j hj hgo hh => (delMs_has hgo hh) (List.mem_map_of_mem hj)
  have hlk : ∀ k, Live M k → k ∉ (keysM objs).map (cid d) → Live (delMs ((keysM objs).map (cid d)) M) k := fun k hk hks => live_delMs.2 ⟨hks, hk⟩
  generalize hM1 : delMs ((keysM objs).map (cid d)) M = M1 at h1 hk0 hMk hlk ⊢
  generalize killEs ((keysM objs).map (cid d)) env = env1 at h1 henvk ⊢
  have hnot : ∀ j, j ∈ keysM objs → ¬ Live M1 (cid d j) := fun j hj hl => by
    rw [← hM1] at hl
    exact (live_delMs.1 hl).1 (List.mem_map_of_mem hj)
  let q : Pl := ⟨fun k => if isCid d (keysM objs) k then p'.β (k - (100000 + 100 * d)) else p.β k, fun k => if isCid d (keysM objs) k then p'.ρ (k - (100000 + 100 * d)) else p.ρ k⟩
  have hqβ : ∀ j, j ∈ keysM objs → q.β (cid d j) = p'.β j := fun j hj => by
    show (if isCid d (keysM objs) (cid d j) then _ else _) = _
    rw [if_pos ⟨j, hj, rfl⟩]; congr 1; unfold cid; omega
  have hqρ : ∀ j, j ∈ keysM objs → q.ρ (cid d j) = p'.ρ j := fun j hj => by
    show (if isCid d (keysM objs) (cid d j) then _ else _) = _
    rw [if_pos ⟨j, hj, rfl⟩]; congr 1; unfold cid; omega
  have hqβ' : ∀ k, Live M1 k → q.β k = p.β k := fun k hk => by
    show (if isCid d (keysM objs) k then _ else _) = _
    rw [if_neg]; rintro ⟨j, hj, rfl⟩; exact hnot j hj hk
  have hqρ' : ∀ k, Live M1 k → q.ρ k = p.ρ k := fun k hk => by
    show (if isCid d (keysM objs) k then _ else _) = _
    rw [if_neg]; rintro ⟨j, hj, rfl⟩; exact hnot j hj hk
  have hgo1 : ∀ j, go (renM d (keysM objs) objs ++ M1) (cid d j) = match (go objs j).map (AObj.ren (keysM objs) (cid d)) with | some o => some o | none => go M1 (cid d j) := fun j => by
    rw [go_append, go_renM_cid]
  have hgo2 : ∀ k, ¬ isCid d (keysM objs) k → go (renM d (keysM objs) objs ++ M1) k = go M1 k := fun k hk => by
    rw [go_append, go_renM_none (fun j hj e => hk ⟨j, hj, e⟩)]
  have hlive : ∀ k, Live (renM d (keysM objs) objs ++ M1) k ↔ isCid d (keysM objs) k ∨ Live M1 k := fun k => by
    by_cases hk : isCid d (keysM objs) k
    · obtain ⟨j, hj, rfl⟩ := hk
      have hl := live_keys.2 hj
      unfold Live at hl ⊢
      rw [hgo1]
      cases hx : go objs j with
      | none => rw [hx] at hl; cases hl
      | some o => simp; exact .inl ⟨j, hj, rfl⟩
    · unfold Live
      rw [hgo2 k hk]
      simp [hk]
  have hold : ∀ b, b < w.heap.size → w'.heap[b]? = w.heap[b]? := fun b hb => hp'.old b hb (fun h => h)
  have hsize : w.heap.size ≤ w'.heap.size := hp'.size
  have hfresh : ∀ j b, j ∈ keysM objs → root (p'.β j) = some b → w.heap.size ≤ b ∧ b < w'.heap.size := fun j b hj hb => by
    obtain ⟨e1, e2⟩ := hp'.own j b (live_keys.2 hj) hb
    exact ⟨e2.elim (fun h => h.2.elim) id, e1⟩
  -- the old readable blocks
  have hkeep1 : Keep (Imm F p M1 w) (Imm F q (renM d (keysM objs) objs ++ M1) w') w w' := fun b hb => by
    refine ⟨⟨by have := hb.1; omega, hb.2.1, fun k hk => ?_⟩, hold b hb.1⟩
    rcases (hlive k).1 hk with ⟨j, hj, rfl⟩ | hk
    · rw [hqβ j hj]; intro e; have := hfresh j b hj e; have := hb.1; omega
    · rw [hqβ' k hk]; exact hb.2.2 k hk
  -- the new ones
  have hkeep2 : Keep (Imm (fr0 sh A w) p' objs w') (Imm F q (renM d (keysM objs) objs ++ M1) w') w' w' := fun b hb => by
    obtain ⟨b1, b2, b3⟩ := hb
    have hcase : Imm F p M w b ∨ w.heap.size ≤ b := by
      rcases b2 with b2 | b2 | b2
      · exact .inl (hA b2.1 b b2.2)
      · exact b2.elim
      · exact .inr b2
    refine ⟨⟨b1, ?_, fun k hk => ?_⟩, rfl⟩
    · rcases hcase with hc | hc
      · exact hc.2.1
      · exact .inr (.inr (Nat.le_trans h.hp.size hc))
    · rcases (hlive k).1 hk with ⟨j, hj, rfl⟩ | hk
      · rw [hqβ j hj]; exact b3 j (live_keys.2 hj)
      · rw [hqβ' k hk]
        intro e
        rcases hcase with hc | hc
        · exact (hk0 b hc).1.2.2 k hk e
        · have := (h1.hp.own k b hk e).1; omega
  have hcidlt : ∀ j b, j ∈ keysM objs → p'.ρ j b → Imm (fr0 sh A w) p' objs w' b ∧ w.heap.size ≤ b := fun j b hj hb => hp'.priv j b (live_keys.2 hj) hb
  refine ⟨q, ⟨h1.defers, h1.nt, fun t => ?_, ⟨fun k o hk => ?_, fun k k' b hne hk hk' hb => ?_, fun k b hk hb => ?_, fun k b hk hb => ?_, fun k k' b hne hk hk' hb => ?_, hp'.os.trans h.hp.os, hp'.tape.trans h.hp.tape, hp'.output.trans h.hp.output, Nat.le_trans h.hp.size hp'.size, fun b hb hR => ?_⟩⟩, ?_, fun k hk hks => ⟨(hlive k).2 (.inr (hlk k hk hks)), hqβ' k (hlk k hk hks)⟩⟩
  · refine RelV.keep hkeep1 _ (fun k hk => ?_) _ (h1.slots t)
    show (if isCid d (keysM objs) k then _ else _) = _
    rw [if_neg]
    rintro ⟨j, hj, rfl⟩
    exact henvk t j hj hk
  · by_cases hc : isCid d (keysM objs) k
    · obtain ⟨j, hj, rfl⟩ := hc
      rw [hgo1] at hk
      have hl := live_keys.2 hj
      cases hx : go objs j with
      | none => unfold Live at hl; rw [hx] at hl; cases hl
      | some o' =>
        rw [hx] at hk
        simp only [Option.map_some, Option.some.injEq] at hk
        subst hk
        rw [hqβ j hj, hqρ j hj]
        exact RelO.ren hqβ hkeep2 (fun b hb => (hcidlt j b hj hb).1) o' _ (fun b _ => rfl) (hp'.objs j o' hx)
    · rw [hgo2 k hc] at hk
      have hl := go_live hk
      rw [hqβ' k hl, hqρ' k hl]
      refine RelO.keep hkeep1 (fun b hb => (h1.hp.priv k b hl hb).1) o (fun i hi => ?_) _ (fun b hb => hold b (h1.hp.own k b hl hb).1) (h1.hp.objs k o hk)
      show (if isCid d (keysM objs) i then _ else _) = _
      rw [if_neg]
      rintro ⟨j, hj, rfl⟩
      exact hMk k o j hj hk hi
  · rcases (hlive k).1 hk with ⟨j, hj, rfl⟩ | hk1
    · rw [hqβ j hj] at hb
      rcases (hlive k').1 hk' with ⟨j', hj', rfl⟩ | hk1'
      · rw [hqβ j' hj']
        exact hp'.sep j j' b (fun e => hne (by rw [e])) (live_keys.2 hj) (live_keys.2 hj') hb
      · rw [hqβ' k' hk1']
        intro e
        have := (h1.hp.own k' b hk1' e).1
        have := (hfresh j b hj hb).1
        omega
    · rw [hqβ' k hk1] at hb
      rcases (hlive k').1 hk' with ⟨j', hj', rfl⟩ | hk1'
      · rw [hqβ j' hj']
        intro e
        have := (h1.hp.own k b hk1 hb).1
        have := (hfresh j' b hj' e).1
        omega
      · rw [hqβ' k' hk1']
        exact h1.hp.sep k k' b hne hk1 hk1' hb
  · rcases (hlive k).1 hk with ⟨j, hj, rfl⟩ | hk1
    · rw [hqβ j hj] at hb
      have := hfresh j b hj hb
      exact ⟨this.2, .inr (Nat.le_trans h.hp.size this.1)⟩
    · rw [hqβ' k hk1] at hb
      have := h1.hp.own k b hk1 hb
      exact ⟨by omega, this.2⟩
  · rcases (hlive k).1 hk with ⟨j, hj, rfl⟩ | hk1
    · rw [hqρ j hj] at hb
      have := hcidlt j b hj hb
      exact ⟨(hkeep2 b this.1).1, Nat.le_trans h.hp.size this.2⟩
    · rw [hqρ' k hk1] at hb
      have := h1.hp.priv k b hk1 hb
      exact ⟨(hkeep1 b this.1).1, this.2⟩
  · rcases (hlive k).1 hk with ⟨j, hj, rfl⟩ | hk1
    · rw [hqρ j hj] at hb
      rcases (hlive k').1 hk' with ⟨j', hj', rfl⟩ | hk1'
      · rw [hqρ j' hj']
        exact hp'.apart j j' b (fun e => hne (by rw [e])) (live_keys.2 hj) (live_keys.2 hj') hb
      · rw [hqρ' k' hk1']
        intro e
        have := (h1.hp.priv k' b hk1' e).1.1
        have := (hcidlt j b hj hb).2
        omega
    · rw [hqρ' k hk1] at hb
      rcases (hlive k').1 hk' with ⟨j', hj', rfl⟩ | hk1'
      · rw [hqρ j' hj']
        intro e
        have := (h1.hp.priv k b hk1 hb).1.1
        have := (hcidlt j' b hj' e).2
        omega
      · rw [hqρ' k' hk1']
        exact h1.hp.apart k k' b hne hk1 hk1' hb
  · rw [hold b (by have := h.hp.size; omega)]
    exact h.hp.old b hb hR
  · exact RelV.ren hqβ hkeep2 res v hres

end
end Go.Am

/- The abstract machine: append as an operation; what single operations do. -/
namespace Go.Am
open Go.RowKit

section
variable {F : Fr} {p : Pl} {env : List (Nat × AV)} {M : List (Nat × AObj)} {a : Act} {w : World} {P : Program}

/-- An object's content may be said otherwise. -/
def ObjLe (o o' : AObj) : Prop :=
  match o, o' with
  | .arr fr e sz n f, .arr fr' e' sz' n' f' => (fr' = true → fr = true) ∧ e' = e ∧ sz' = sz ∧ n' = n ∧ ∀ i, i < n → f' i = f i
  | o, o' => o = o'

theorem ObjLe.refl (o : AObj) : ObjLe o o := by
  cases o with
  | arr => exact ⟨id, rfl, rfl, rfl, fun _ _ => rfl⟩
  | cells => rfl

theorem ObjLe.rel {β : Nat → Value} {ρ Im : Nat → Prop} {o o' : AObj} {v : Value} (hρ : ∀ b, ρ b → Im b) (h : ObjLe o o') (r : RelO β ρ Im w o v) : RelO β ρ Im w o' v := by
  match o, o', h with
  | .arr fr e sz n f, .arr fr' e' sz' n' f', h =>
    obtain ⟨hfr, rfl, rfl, rfl, hf⟩ := h
    obtain ⟨xs, h1, h2, h3, h4⟩ := r.arr_rel hρ
    cases fr' with
    | true =>
      obtain ⟨T, t1, t2, t3⟩ := h4 (hfr rfl)
      simp only [RelO]
      exact ⟨xs, T, h1, h2, t1, t2, fun i hi => by rw [hf i hi]; exact t3 i hi⟩
    | false =>
      simp only [RelO]
      exact ⟨xs, h1, h2, fun i hi => by rw [hf i hi]; exact h3 i hi⟩
  | .cells ty l, .cells ty' l', h => simp only [ObjLe] at h; rw [← h]; exact r

theorem ObjLe.has {o o' : AObj} (h : ObjLe o o') (k : Nat) : o'.has k = o.has k := by
  match o, o', h with
  | .arr .., .arr .., _ => rfl
  | .cells ty l, .cells ty' l', h => simp only [ObjLe] at h; rw [h]

/-- Slots and objects may be forgotten or said otherwise. -/
theorem St.objs' (h : St F p env M a w) {M' : List (Nat × AObj)} (hM : ∀ k o', go M' k = some o' → ∃ o, go M k = some o ∧ ObjLe o o') : St F p env M' a w := by
  have hlive : ∀ k, Live M' k → Live M k := fun k hk => by
    unfold Live at hk
    cases hx : go M' k with
    | none => rw [hx] at hk; cases hk
    | some o' => obtain ⟨o, ho, _⟩ := hM k o' hx; exact go_live ho
  have hk : Keep (Imm F p M w) (Imm F p M' w) w w := fun b hb => ⟨⟨hb.1, hb.2.1, fun k hk => hb.2.2 k (hlive k hk)⟩, rfl⟩
  refine ⟨h.defers, h.nt, fun t => RelV.keep hk _ (fun _ _ => rfl) _ (h.slots t), ⟨fun k o' ho' => ?_, fun k k' b hne h1 h2 => h.hp.sep k k' b hne (hlive k h1) (hlive k' h2), fun k b h1 => h.hp.own k b (hlive k h1),
    fun k b h1 h2 => ⟨(hk b (h.hp.priv k b (hlive k h1) h2).1).1, (h.hp.priv k b (hlive k h1) h2).2⟩, fun k k' b hne h1 h2 => h.hp.apart k k' b hne (hlive k h1) (hlive k' h2),
    h.hp.os, h.hp.tape, h.hp.output, h.hp.size, h.hp.old⟩⟩
  obtain ⟨o, ho, hle⟩ := hM k o' ho'
  have hl := go_live ho
  have hr := RelO.keep hk (fun b hb => (h.hp.priv k b hl hb).1) o (fun _ _ => rfl) _ (fun b _ => rfl) (h.hp.objs k o ho)
  exact hle.rel (fun b hb => (hk b (h.hp.priv k b hl hb).1).1) hr

def isNil : AV → Bool
  | .d (.raw (.slice none 0 0)) => true
  | _ => false

theorem isNil_eq {x : AV} (h : isNil x = true) : x = .d (.raw (.slice none 0 0)) := by
  unfold isNil at h
  split at h
  · rfl
  · cases h

/-- A nil slice as an empty slice of the call's own. -/
theorem St.phantom (h : St F p env M a w) (k : Nat) (e : TypeId) (sz : Nat) (f : Nat → List D) : St F (p.upd k (.slice none 0 0) fun _ => False) (killE k env) ((k, .arr true e sz 0 f) :: delM k M) a w := by
  refine h.new k _ _ _ ⟨rfl, rfl, rfl, Nat.le_refl _, fun _ _ _ => rfl⟩ (fun b hb => by cases hb) (fun b hb => hb.elim) (fun _ => ?_)
  simp only [RelO]
  exact ⟨[], fun _ _ => False, World.ownsRow_nil _ _ _ _, Nat.zero_le _, fun i b hb => hb.elim, fun i j b _ hb => hb.elim, fun i hi => by omega⟩

/-- The source of an append. -/
def Src (F : Fr) (p : Pl) (M : List (Nat × AObj)) (w : World) (frx : Bool) (sz m : Nat) (g : Nat → List D) (v : Value) : Prop :=
  (m = 0 ∧ v = .slice none 0 0) ∨ ∃ src c news, v = .slice (some src) m c ∧ news.length = m * sz ∧ (∀ (j : Nat) (u : Value), news[j]? = some u → w.cell? (src.add j) = some u) ∧ (∀ u ∈ news, u.oneCell' = true) ∧ Rows' F p M w frx sz m g news

theorem St.append2 (h : St F p env M a w) (k : Nat) (fr frx : Bool) (e : TypeId) (sz n m : Nat) (f g : Nat → List D) (z : List D) (hk : go M k = some (.arr fr e sz n f))
    (henv : ∀ t, (gt env t).has k = false) (hM : ∀ j o, j ≠ k → go M j = some o → o.has k = false)
    (t ty' : TypeId) (ht : (ty P t).ok = true) (he : (ty P t).el = some e) (heok : (ty P e).ok = true) (hsz : (ty P e).size = sz) (hz : ∃ zs, (ty P e).zero = some zs ∧ zs.length = sz)
    (hnb : n + m ≤ nb) (hbytes : (n + m) * (ty P e).bytes ≤ nb) (v : Value) (hr : Src F p M w frx sz m g v) :
    ∃ v' w' r, (Builtin.append_ #[t, t] ty' #[p.β k, v]).run P w = .ok v' w' ∧
      St F (p.upd k v' r) env (setM k (.arr (fr && frx) e sz (n + m) (appF z n f m g)) M) a w' := by
  rcases hr with ⟨rfl, rfl⟩ | ⟨src, c, news, rfl, hl, hnews, h1, hr⟩
  · obtain ⟨inf, u, hi, hu⟩ := ty_some ht
    obtain ⟨infe, ue, hie, hue⟩ := ty_some heok
    rw [ty_of hi hu] at he
    rw [ty_of hie hue] at hsz
    simp only [tyOf] at he hsz
    cases u <;> simp at he
    obtain rfl := he.symm
    obtain ⟨xs, hown, _⟩ := (h.hp.objs k _ hk).arr_own
    refine ⟨p.β k, w, p.ρ k, run_append_owned_none w 0 t ty' _ infe sz hu hie (p.β k) n xs hown, ?_⟩
    rw [Pl.upd_self]
    refine h.objs' (fun j o' ho' => ?_)
    by_cases e : j = k
    · subst e
      rw [go_setM_self _ M (go_live hk)] at ho'
      cases ho'
      refine ⟨_, hk, fun hh => (Bool.and_eq_true _ _ ▸ hh).1, rfl, rfl, rfl, fun i hi => by simp only [appF, if_pos hi]⟩
    · rw [go_setM_ne _ e] at ho'
      exact ⟨o', ho', ObjLe.refl _⟩
  · exact h.append k fr frx e sz n m f g z hk henv hM t ty' ht he heok hsz hz src c news hl hnews h1 hnb hbytes hr

theorem src_seq {sz m : Nat} {g : Nat → List D} {v : Value} (h : RelD (Imm F p M w) w (.seq sz m g) v) (hlen : ∀ i, i < m → (g i).length = sz) (h1 : rowsOne m g) : Src F p M w (flatRows m g) sz m g v := by
  simp only [RelD] at h
  obtain ⟨oa, cap, rfl, hn, hnone, hs⟩ := h
  cases oa with
  | none => obtain ⟨rfl, rfl⟩ := hnone rfl; exact .inl ⟨rfl, rfl⟩
  | some src =>
    right
    rcases Nat.eq_zero_or_pos m with rfl | hm
    · exact ⟨src, cap, [], rfl, by simp, by simp, by simp, rows_of_rel (fun i hi => by omega)⟩
    · obtain ⟨s1, s2, s3⟩ := hs src rfl hm
      obtain ⟨news, e1, e2, e3⟩ := read_rows src.block src.off sz g m hlen s3
      refine ⟨src, cap, news, rfl, e1, fun j u hj => ?_, rows_one e1 e3 h1, rows_of_rel e3⟩
      have := e2 j u hj
      obtain ⟨b, o, s⟩ := src
      simp only at s1
      subst s1
      rw [Addr.add_lit]
      exact this

theorem src_own (hp : Hp F p M w) {k2 : Nat} {fr2 : Bool} {e : TypeId} {sz m : Nat} {g : Nat → List D} (hk : go M k2 = some (.arr fr2 e sz m g)) (h1 : rowsOne m g) {M' : List (Nat × AObj)} (hM' : ∀ j, Live M' j → j ≠ k2 ∧ Live M j) :
    Src F p M' w fr2 sz m g (p.β k2) := by
  have hl := go_live hk
  have hI : ∀ b, Imm F p M w b → Imm F p M' w b := fun b hb => ⟨hb.1, hb.2.1, fun j hj => hb.2.2 j (hM' j hj).2⟩
  obtain ⟨xs, e1, e2, e3, e4⟩ := (hp.objs k2 _ hk).arr_rel (fun b hb => (hp.priv k2 b hl hb).1)
  rcases own_cells e1 with ⟨hn, hv⟩ | ⟨gb, cap, hv, hc⟩
  · exact .inl ⟨hn, hv⟩
  · refine .inr ⟨⟨gb, 0, none⟩, cap, xs, hv, e1.1, fun j u hj => ?_, rows_one e1.1 e3 h1, ?_⟩
    · rw [Addr.add_lit]; simpa using hc j u hj
    · cases fr2 with
      | false => exact fun i hi => RelDs.keep (fun b hb => ⟨hI b hb, rfl⟩) _ _ (e3 i hi)
      | true =>
        obtain ⟨T, t1, t2, t3⟩ := e4 rfl
        exact ⟨p.ρ k2, T, t1, t2, t3, fun b hb => ⟨hI b (hp.priv k2 b hl hb).1, (hp.priv k2 b hl hb).2, fun j hj => hp.apart k2 j b (Ne.symm (hM' j hj).1) hl (hM' j hj).2 hb⟩⟩

end

/-! ### the operations -/

structure Rs where
  vc : Prop
  av : AV
  ks : List Nat
  M : List (Nat × AObj)

def badR (M : List (Nat × AObj)) : Rs := ⟨False, .any, [], M⟩
def pureR (q : Prop × AV) (M : List (Nat × AObj)) : Rs := ⟨q.1, q.2, [], M⟩
def u1 (f : AV → Prop × AV) (x : AV) : Prop × AV := (x.sc ∧ (f x.strip).1, (f x.strip).2)
def u2 (f : AV → AV → Prop × AV) (x y : AV) : Prop × AV := (x.sc ∧ y.sc ∧ (f x.strip y.strip).1, (f x.strip y.strip).2)
def ok1 (b : Bool) (q : Prop × AV) : Prop × AV := (b = true ∧ q.1, q.2)

/-- Not more than one cell; an own object must be there. -/
def oneM (M : List (Nat × AObj)) : AV → Bool
  | .own k => (go M k).isSome
  | .d x => x.one
  | .box _ _ => true
  | .elt _ _ _ _ => true
  | .fn _ _ => true
  | _ => false

/-- a value's cells -/
def vcells (M : List (Nat × AObj)) : AV → Option (List AV)
  | .agg l => some l
  | x => if oneM M x then some [x] else none

/-- what a call returns -/
structure CtR where
  pre : Prop
  sh : Bool
  res : AV
  objs : List (Nat × AObj)

noncomputable def evApp (P : Program) (dst : Option Nat) (t : TypeId) (s x : AV) (M : List (Nat × AObj)) : Rs :=
  match (ty P t).el with
  | none => badR M
  | some e =>
    match (ty P e).zero with
    | none => badR M
    | some zs =>
      match s, x with
      | .own k, .own k2 =>
        (match go M k, go M k2 with
        | some (.arr fr e' sz n f), some (.arr fr2 _ sz2 m g) =>
          ⟨(ty P t).ok = true ∧ (ty P e).ok = true ∧ k ≠ k2 ∧ e' = e ∧ sz = (ty P e).size ∧ sz2 = sz ∧ zs.length = sz ∧ n + m ≤ nb ∧ (n + m) * (ty P e).bytes ≤ nb ∧ rowsOne m g,
            .own k, [k2, k], setM k (.arr (fr && fr2) e sz (n + m) (appF zs n f m g)) (killM k (delM k2 M))⟩
        | _, _ => badR M)
      | .own k, .d y =>
        (match go M k with
        | some (.arr fr e' sz n f) =>
          if isNil (.d y) then ⟨(ty P t).ok = true ∧ (ty P e).ok = true ∧ e' = e ∧ sz = (ty P e).size, .own k, [], M⟩
          else (match sq y with
            | some (sz2, m, g) =>
              ⟨(ty P t).ok = true ∧ (ty P e).ok = true ∧ e' = e ∧ sz = (ty P e).size ∧ sz2 = sz ∧ zs.length = sz ∧ n + m ≤ nb ∧ (n + m) * (ty P e).bytes ≤ nb ∧ rowsOne m g ∧ ∀ i, i < m → (g i).length = sz,
                .own k, [k], setM k (.arr (fr && flatRows m g) e sz (n + m) (appF zs n f m g)) (killM k M)⟩
            | none => badR M)
        | _ => badR M)
      | .d y0, .own k2 =>
        (match dst, go M k2 with
        | some k, some (.arr fr2 _ sz2 m g) =>
          ⟨isNil (.d y0) = true ∧ (ty P t).ok = true ∧ (ty P e).ok = true ∧ k ≠ k2 ∧ sz2 = (ty P e).size ∧ zs.length = sz2 ∧ m ≤ nb ∧ m * (ty P e).bytes ≤ nb ∧ rowsOne m g,
            .own k, [k2, k], (k, .arr fr2 e sz2 m (appF zs 0 (fun _ => zs) m g)) :: delM k (delM k2 M)⟩
        | _, _ => badR M)
      | .d y0, .d y =>
        (match dst, sq y with
        | some k, some (sz2, m, g) =>
          ⟨isNil (.d y0) = true ∧ (ty P t).ok = true ∧ (ty P e).ok = true ∧ sz2 = (ty P e).size ∧ zs.length = sz2 ∧ m ≤ nb ∧ m * (ty P e).bytes ≤ nb ∧ rowsOne m g ∧ ∀ i, i < m → (g i).length = sz2,
            .own k, [k], (k, .arr (flatRows m g) e sz2 m (appF zs 0 (fun _ => zs) m g)) :: delM k M⟩
        | _, _ => badR M)
      | _, _ => badR M

section
variable {F : Fr} {p : Pl} {env : List (Nat × AV)} {M : List (Nat × AObj)} {a : Act} {w : World} {P : Program}

theorem killE_has_self (k t : Nat) (env : List (Nat × AV)) : (gt (killE k env) t).has k = false := by rw [gt_killE]; exact AV.has_kill _ _
theorem killM_has {k j : Nat} {M : List (Nat × AObj)} {o : AObj} (h : go (killM k M) j = some o) : o.has k = false := by
  rw [go_killM] at h
  cases hx : go M j with
  | none => rw [hx] at h; cases h
  | some o' => rw [hx] at h; simp only [Option.map_some, Option.some.injEq] at h; subst h; exact AObj.has_kill k o'
theorem delM_has {k j : Nat} {M : List (Nat × AObj)} {o : AObj} (h : go (delM k M) j = some o) : o.has k = false := by
  by_cases e : j = k
  · subst e; rw [go_delM_self] at h; cases h
  · rw [go_delM_ne e] at h
    cases hx : go M j with
    | none => rw [hx] at h; cases h
    | some o' => rw [hx] at h; simp only [Option.map_some, Option.some.injEq] at h; subst h; exact AObj.has_kill k o'

theorem evApp_ok {t ty' : TypeId} {dst : Option Nat} (h : St F p env M a w) (s x : AV) (u v : Value) (hu : RelV p.β (Imm F p M w) w s u) (hx : RelV p.β (Imm F p M w) w x v) (hv : (evApp P dst t s x M).vc) :
    ∃ r w' q, (Builtin.append_ #[t, t] ty' #[u, v]).run P w = .ok r w' ∧ St F q (killEs (evApp P dst t s x M).ks env) (evApp P dst t s x M).M a w' ∧
      RelV q.β (Imm F q (evApp P dst t s x M).M w') w' (evApp P dst t s x M).av r := by
  unfold evApp at hv ⊢
  cases he : (ty P t).el with
  | none => rw [he] at hv; exact hv.elim
  | some e =>
    rw [he] at hv
    cases hz : (ty P e).zero with
    | none => simp only [hz] at hv; exact hv.elim
    | some zs =>
      simp only [hz] at hv ⊢
      split at hv
      · -- own, own
        rename_i k k2
        split at hv
        · rename_i fr e' sz n f fr2 e2 sz2 m g hg hg2
          obtain ⟨v1, v2, v3, v4, v5, v6, v7, v8, v9, v10⟩ := hv
          obtain rfl := v4.symm
          obtain rfl := v6.symm
          simp only [RelV] at hu hx
          subst hu; subst hx
          have h1 := (h.del k2).kill k
          have hgk : go (killM k (delM k2 M)) k = some (.arr fr e sz n f) := by rw [go_killM, go_delM_ne v3, hg]; rfl
          have hsrc : Src F p (killM k (delM k2 M)) w fr2 sz m g (p.β k2) := src_own h.hp hg2 v10 (fun j hj => live_delM.1 (live_killM.1 hj))
          obtain ⟨r, w', q, hrun, hst⟩ := h1.append2 k fr fr2 e sz n m f g zs hgk (fun t => killE_has_self k t _) (fun j o _ ho => killM_has ho) t ty' v1 he v2 v5.symm ⟨zs, hz, v7⟩ v8 v9 (p.β k2) hsrc
          exact ⟨r, w', p.upd k r q, hrun, hst, by simp [RelV, Pl.upd]⟩
        · exact hv.elim
      · -- own, data
        rename_i k y
        split at hv
        · rename_i fr e' sz n f hg
          split at hv
          · rename_i hnil
            obtain ⟨v1, v2, v3, v4⟩ := hv
            obtain rfl := v3.symm
            have hy := isNil_eq hnil
            simp only [AV.d.injEq] at hy
            subst hy
            simp only [RelV] at hu
            simp only [RelV, RelD] at hx
            subst hu; subst hx
            obtain ⟨inf, d, hi, hd⟩ := ty_some v1
            obtain ⟨infe, de, hie, hde⟩ := ty_some v2
            rw [ty_of hi hd] at he
            rw [ty_of hie hde] at v4
            simp only [tyOf] at he v4
            cases d <;> simp at he
            subst he
            obtain ⟨xs, hown, _⟩ := (h.hp.objs k _ hg).arr_own
            simp only [hnil, if_true]
            exact ⟨p.β k, w, p, run_append_owned_none w 0 t ty' _ infe sz hd hie (p.β k) n xs hown, h, by simp only [RelV]⟩
          · rename_i hnil
            split at hv
            · rename_i sz2 m g hy
              obtain ⟨v1, v2, v3, v5, v6, v7, v8, v9, v10, v11⟩ := hv
              obtain rfl := v3.symm
              obtain rfl := v6.symm
              simp only [RelV] at hu hx
              subst hu
              obtain rfl := sq_some hy
              simp only [hnil, if_false, Bool.false_eq_true]
              have h1 := h.kill k
              have hgk : go (killM k M) k = some (.arr fr e sz n f) := by rw [go_killM, hg]; rfl
              have hsrc : Src F p (killM k M) w (flatRows m g) sz m g v := src_seq (RelD.keep (fun b hb => ⟨⟨hb.1, hb.2.1, fun j hj => hb.2.2 j (live_killM.1 hj)⟩, rfl⟩) _ _ hx) v11 v10
              obtain ⟨r, w', q, hrun, hst⟩ := h1.append2 k fr (flatRows m g) e sz n m f g zs hgk (fun t => killE_has_self k t _) (fun j o _ ho => killM_has ho) t ty' v1 he v2 v5.symm ⟨zs, hz, v7⟩ v8 v9 v hsrc
              exact ⟨r, w', p.upd k r q, hrun, hst, by simp [RelV, Pl.upd]⟩
            · exact hv.elim
        · exact hv.elim
      · -- nil, own
        rename_i y0 k2
        split at hv
        · rename_i k fr2 e2 sz2 m g hg2
          obtain ⟨v0, v1, v2, v3, v5, v7, v8, v9, v10⟩ := hv
          have hy := isNil_eq v0
          simp only [AV.d.injEq] at hy
          subst hy
          simp only [RelV, RelD] at hu
          simp only [RelV] at hx
          subst hu; subst hx
          have h1 := (h.del k2).phantom k e sz2 (fun _ => zs)
          have hgk : go ((k, AObj.arr true e sz2 0 (fun _ => zs)) :: delM k (delM k2 M)) k = some (.arr true e sz2 0 (fun _ => zs)) := by simp [go]
          have hlv : ∀ j, Live ((k, AObj.arr true e sz2 0 (fun _ => zs)) :: delM k (delM k2 M)) j → j = k ∨ (j ≠ k ∧ j ≠ k2 ∧ Live M j) := fun j hj => by
            by_cases e' : j = k
            · exact .inl e'
            · right
              unfold Live at hj
              simp only [go, if_neg (Ne.symm e')] at hj
              have := live_delM.1 (show Live (delM k (delM k2 M)) j from hj)
              exact ⟨e', (live_delM.1 this.2).1, (live_delM.1 this.2).2⟩
          have hl2 := go_live hg2
          obtain ⟨xs, e1, e2', e3, e4⟩ := (h.hp.objs k2 _ hg2).arr_rel (fun b hb => (h.hp.priv k2 b hl2 hb).1)
          have hI : ∀ b, Imm F p M w b → Imm F (p.upd k (.slice none 0 0) fun _ => False) ((k, AObj.arr true e sz2 0 (fun _ => zs)) :: delM k (delM k2 M)) w b := fun b hb => by
            refine ⟨hb.1, hb.2.1, fun j hj => ?_⟩
            rcases hlv j hj with rfl | ⟨n1, n2, n3⟩
            · simp [Pl.upd, root]
            · simp only [Pl.upd, if_neg n1]; exact hb.2.2 j n3
          have hsrc : Src F (p.upd k (.slice none 0 0) fun _ => False) ((k, AObj.arr true e sz2 0 (fun _ => zs)) :: delM k (delM k2 M)) w fr2 sz2 m g (p.β k2) := by
            rcases own_cells e1 with ⟨hn, hv'⟩ | ⟨gb, cap, hv', hc⟩
            · exact .inl ⟨hn, hv'⟩
            · refine .inr ⟨⟨gb, 0, none⟩, cap, xs, hv', e1.1, fun j u hj => ?_, rows_one e1.1 e3 v10, ?_⟩
              · rw [Addr.add_lit]; simpa using hc j u hj
              · cases fr2 with
                | false => exact fun i hi => RelDs.keep (fun b hb => ⟨hI b hb, rfl⟩) _ _ (e3 i hi)
                | true =>
                  obtain ⟨T, t1, t2, t3⟩ := e4 rfl
                  refine ⟨p.ρ k2, T, t1, t2, t3, fun b hb => ⟨hI b (h.hp.priv k2 b hl2 hb).1, (h.hp.priv k2 b hl2 hb).2, fun j hj => ?_⟩⟩
                  rcases hlv j hj with rfl | ⟨n1, n2, n3⟩
                  · simp [Pl.upd]
                  · simp only [Pl.upd, if_neg n1]; exact h.hp.apart k2 j b (Ne.symm n2) hl2 n3 hb
          obtain ⟨r, w', q, hrun, hst⟩ := h1.append2 k true fr2 e sz2 0 m (fun _ => zs) g zs hgk (fun t => killE_has_self k t _) (fun j o hj ho => by simp only [go, if_neg (Ne.symm hj)] at ho; exact delM_has ho) t ty' v1 he v2 v5.symm ⟨zs, hz, v7⟩ (by omega) (by simpa using v9) (p.β k2) hsrc
          have hβk : (p.upd k (.slice none 0 0) fun _ => False).β k = .slice none 0 0 := by simp [Pl.upd]
          rw [hβk] at hrun
          refine ⟨r, w', (p.upd k (.slice none 0 0) fun _ => False).upd k r q, hrun, ?_, by simp [RelV, Pl.upd]⟩
          simpa [setM, killEs] using hst
        · exact hv.elim
      · -- nil, data
        rename_i y0 y
        split at hv
        · rename_i k sz2 m g hy
          obtain ⟨v0, v1, v2, v5, v7, v8, v9, v10, v11⟩ := hv
          have hy0 := isNil_eq v0
          simp only [AV.d.injEq] at hy0
          subst hy0
          obtain rfl := sq_some hy
          simp only [RelV, RelD] at hu
          simp only [RelV] at hx
          subst hu
          have h1 := h.phantom k e sz2 (fun _ => zs)
          have hgk : go ((k, AObj.arr true e sz2 0 (fun _ => zs)) :: delM k M) k = some (.arr true e sz2 0 (fun _ => zs)) := by simp [go]
          have hI : ∀ b, Imm F p M w b → Imm F (p.upd k (.slice none 0 0) fun _ => False) ((k, AObj.arr true e sz2 0 (fun _ => zs)) :: delM k M) w b := fun b hb => by
            refine ⟨hb.1, hb.2.1, fun j hj => ?_⟩
            by_cases e' : j = k
            · subst e'; simp [Pl.upd, root]
            · simp only [Pl.upd, if_neg e']
              unfold Live at hj
              simp only [go, if_neg (Ne.symm e')] at hj
              exact hb.2.2 j (live_delM.1 (show Live (delM k M) j from hj)).2
          have hsrc := src_seq (RelD.keep (fun b hb => ⟨hI b hb, rfl⟩) _ _ hx) v11 v10
          obtain ⟨r, w', q, hrun, hst⟩ := h1.append2 k true (flatRows m g) e sz2 0 m (fun _ => zs) g zs hgk (fun t => killE_has_self k t _) (fun j o hj ho => by simp only [go, if_neg (Ne.symm hj)] at ho; exact delM_has ho) t ty' v1 he v2 v5.symm ⟨zs, hz, v7⟩ (by omega) (by simpa using v9) v hsrc
          have hβk : (p.upd k (.slice none 0 0) fun _ => False).β k = .slice none 0 0 := by simp [Pl.upd]
          rw [hβk] at hrun
          refine ⟨r, w', (p.upd k (.slice none 0 0) fun _ => False).upd k r q, hrun, ?_, by simp [RelV, Pl.upd]⟩
          simpa [setM, killEs] using hst
        · exact hv.elim
      · exact hv.elim

end
end Go.Am

/- The abstract machine: every operation. -/
namespace Go.Am
open Go.RowKit

/-- the operands of a call, without guards -/
def scL : List AV → Prop
  | [] => True
  | x :: r => x.sc ∧ scL r

/-! does it speak of objects? -/
mutual
def AV.refs : AV → Bool
  | .any => false
  | .d _ => false
  | .own _ => true
  | .box _ _ => true
  | .elt _ _ _ _ => true
  | .agg l => AV.refsL l
  | .tup l => AV.refsL l
  | .gd _ v => v.refs
  | .fn _ l => AV.refsL l
def AV.refsL : List AV → Bool
  | [] => false
  | x :: r => x.refs || AV.refsL r
end

def splice (l : List AV) (off : Nat) (ls : List AV) : List AV := l.take off ++ ls ++ l.drop (off + ls.length)

/-- parts of a literal laid into cells -/
def evFill (place : Nat → Option (Nat × Nat)) (M : List (Nat × AObj)) : List AV → List (Nat × AV) → Option (List AV)
  | l, [] => some l
  | l, (i, x) :: r => (match place i, vcells M x with
    | some (off, size), some ls => if ls.length = size ∧ off + size ≤ l.length then evFill place M (splice l off ls) r else none
    | _, _ => none)

noncomputable def evOp (P : Program) (Φ : FuncId → List AV → CtR) (o : Oper) (ρ : Operand → AV) (M : List (Nat × AObj)) : Rs :=
  match o.op with
  | .move x => pureR (True, ρ x) M
  | .assign x => pureR (True, ρ x) M
  | .pick c x y => pureR (evPick (ρ c) (ρ x) (ρ y)) M
  | .nilCheck x => pureR (u1 evNil (ρ x)) M
  | .load t x => pureR (ok1 (ty P t).ok (u1 (evLoad (ty P t) M) (ρ x))) M
  | .fieldAddr t x i => pureR (ok1 (ty P t).ok (u1 (fun v => evFldA (ty P t) v i) (ρ x))) M
  | .field t x i => pureR (ok1 (ty P t).ok (u1 (fun v => evFld P (ty P t) v i) (ρ x))) M
  | .indexAddr t x i => pureR (ok1 (ty P t).ok (u2 (evIxA P (ty P t) M) (ρ x) (ρ i))) M
  | .index t x i => pureR (u2 (evIx (ty P t)) (ρ x) (ρ i)) M
  | .binOp op t x y _ => pureR (u2 (evBin (ty P t) op) (ρ x) (ρ y)) M
  | .unOp op _ x => pureR (u1 (evUn op) (ρ x)) M
  | .convert s d x => pureR (u1 (evConv (ty P s) (ty P d)) (ρ x)) M
  | .extract x i => pureR (u1 (fun v => evExt v i) (ρ x)) M
  | .alloc e => (match o.dst, (ty P e).zero with
    | some k, some zs => ⟨(ty P e).ok = true, .box k 0, [k], (k, .cells e (zs.map .d)) :: delM k M⟩
    | _, _ => badR M)
  | .box e x => (match o.dst, vcells M (ρ x).strip with
    | some k, some l => ⟨(ρ x).sc, .box k 0, [k], (k, .cells e (AV.killL k l)) :: delM k M⟩
    | _, _ => badR M)
  | .build t parts => (match (ty P t).zero with
    | some zs => (match evFill (fun i => ((ty P t).fld[i]?).map fun q => (q.1, q.2.2)) M (zs.map .d) (parts.toList.map fun q => (q.1, (ρ q.2).strip)) with
      | some l => ⟨scL (parts.toList.map fun q => ρ q.2) ∧ (ty P t).ok = true ∧ (ty P t).sz = true, .agg l, [], M⟩
      | none => badR M)
    | none => badR M)
  | .buildSlice t n parts => (match o.dst, (ty P t).el with
    | some k, some e =>
      (match (ty P e).zero with
      | some zs => (match evFill (fun i => some (i * (ty P e).size, (ty P e).size)) M ((List.replicate n (zs.map .d)).flatten) (parts.toList.map fun q => (q.1, (ρ q.2).strip)) with
        | some cs => (match cellsD M cs with
          | some (ds, ks, fr) => ⟨scL (parts.toList.map fun q => ρ q.2) ∧ (ty P t).ok = true ∧ (ty P e).ok = true ∧ zs.length = (ty P e).size ∧ n * (ty P e).size ≤ 16777216 ∧ n ≤ nb ∧ ds.length = n * (ty P e).size ∧
              ks.Nodup ∧ (∀ j ∈ ks, j < gid), .own k, ks ++ [k], (k, .arr fr e (ty P e).size n (rowF ds (ty P e).size)) :: delM k (delMs ks M)⟩
          | none => badR M)
        | none => badR M)
      | none => badR M)
    | _, _ => badR M)
  | .makeSlice t l c => (match o.dst, (ty P t).el, (ρ l).strip, (ρ c).strip with
    | some k, some e, .d (.int _ nl), .d (.int _ nc) =>
      (match (ty P e).zero with
      | some [z] => if nl = nc
        then ⟨(ρ l).sc ∧ (ρ c).sc ∧ (ty P t).ok = true ∧ (ty P e).ok = true ∧ (ty P e).size = 1 ∧ 0 ≤ nl ∧ nl ≤ nb ∧ (ty P e).bytes * nl ≤ nb, .own k, [k], (k, .arr true e 1 nl.toNat (fun _ => [z])) :: delM k M⟩
        else ⟨(ρ l).sc ∧ (ρ c).sc ∧ (ty P t).ok = true ∧ (ty P e).ok = true ∧ (ty P e).size = 1 ∧ nl = 0 ∧ 0 ≤ nc ∧ nc ≤ nb ∧ (ty P e).bytes * nc ≤ nb, .own k, [k], (k, .arr true e 1 0 (fun _ => [z])) :: delM k M⟩
      | _ => badR M)
    | _, _, _, _ => badR M)
  | .store t x y => (match (ρ x).strip with
    | .box k b => (match go M k, vcells M (ρ y).strip with
      | some (.cells e l), some ls => ⟨(ρ x).sc ∧ (ρ y).sc ∧ (ty P t).ok = true ∧ ls.length = (ty P t).size ∧ b + ls.length ≤ l.length ∧ ∀ q ∈ ls, oneM M q = true, .any, [], setM k (.cells e (l.take b ++ ls ++ l.drop (b + ls.length))) M⟩
      | _, _ => badR M)
    | .elt k s i j => (match go M k, cellsD M [(ρ y).strip] with
      | some (.arr fr e sz n f), some ([d], ks, frx) => ⟨(ρ x).sc ∧ (ρ y).sc ∧ (ty P t).ok = true ∧ (ty P t).size = 1 ∧ s = sz ∧ i < n ∧ j < sz ∧ k ∉ ks ∧ (∀ q ∈ ks, q < gid) ∧ oneM M (ρ y).strip = true,
          .any, ks, setM k (.arr (fr && frx) e sz n (setF f i j d)) (delMs ks M)⟩
      | _, _ => badR M)
    | _ => badR M)
  | .call c => (match c.callee with
    | .builtin .len => (match c.args.toList, c.argTypes.toList with
      | [x], [t] => pureR (u1 (evLen (ty P t) M) (ρ x)) M
      | _, _ => badR M)
    | .builtin .append => (match c.args.toList, c.argTypes.toList with
      | [x, y], [t, t'] =>
        let r := evApp P o.dst t (ρ x).strip (ρ y).strip M
        ⟨(ρ x).sc ∧ (ρ y).sc ∧ t' = t ∧ r.vc, r.av, r.ks, r.M⟩
      | _, _ => badR M)
    | .value (.func f) =>
      let d := o.dst.getD 0
      let r := Φ f (c.args.toList.map fun x => viewA M (ρ x).strip)
      ⟨scL (c.args.toList.map ρ) ∧ r.pre ∧ (r.sh = true → (c.args.toList.map fun x => (ρ x).strip.refs) = c.args.toList.map fun _ => false),
        r.res.ren (keysM r.objs) (cid d), (keysM r.objs).map (cid d), renM d (keysM r.objs) r.objs ++ delMs ((keysM r.objs).map (cid d)) M⟩
    | _ => badR M)
  | _ => badR M

def wr (d : Option Nat) (x : AV) (env : List (Nat × AV)) : List (Nat × AV) :=
  match d with
  | some d => (d, x) :: env
  | none => env

section
variable {F : Fr} {p : Pl} {env : List (Nat × AV)} {M : List (Nat × AObj)} {a : Act} {w : World} {P : Program}

theorem wp_val {o : Oper} {K : Act → World → Prop} {Q : Exit → Act → World → Prop} {v : Value} {w' : World} (h : (execOp a.eval o).run P w = .ok (.value v) w') (hk : K (a.put o.dst v) w') : o.wp P a w K Q := by
  unfold Oper.wp; rw [h]; exact hk
theorem wp_skip' {o : Oper} {K : Act → World → Prop} {Q : Exit → Act → World → Prop} {w' : World} (h : (execOp a.eval o).run P w = .ok .skip w') (hk : K (a.put o.dst undef) w') : o.wp P a w K Q := by
  unfold Oper.wp; rw [h]; exact hk

/-- The world has only grown. -/
structure Ext (w w' : World) : Prop where
  os : w'.os = w.os
  tape : w'.tape = w.tape
  output : w'.output = w.output
  size : w.heap.size ≤ w'.heap.size
  old : ∀ b, b < w.heap.size → w'.heap[b]? = w.heap[b]?

theorem Ext.refl (w : World) : Ext w w := ⟨rfl, rfl, rfl, Nat.le_refl _, fun _ _ => rfl⟩
theorem Ext.of_grown {w w' : World} (h : w.grownBy w' none) : Ext w w' := ⟨h.os, h.tape, h.output, h.size, fun b hb => h.block b hb (by simp)⟩

/-- Operations that write nothing that was there. -/
def quiet (o : Oper) : Bool :=
  match o.op with
  | .move _ => true
  | .assign _ => true
  | .pick _ _ _ => true
  | .nilCheck _ => true
  | .load _ _ => true
  | .fieldAddr _ _ _ => true
  | .field _ _ _ => true
  | .indexAddr _ _ _ => true
  | .index _ _ _ => true
  | .binOp _ _ _ _ _ => true
  | .unOp _ _ _ => true
  | .convert _ _ _ => true
  | .extract _ _ => true
  | .alloc _ => true
  | .box _ _ => true
  | .build _ _ => true
  | .buildSlice _ _ _ => true
  | .makeSlice _ _ _ => true
  | .call c => (match c.callee with
    | .builtin .len => true
    | .value (.func _) => true
    | _ => false)
  | _ => false

/-- what is reached -/
def Post (F : Fr) (p : Pl) (M : List (Nat × AObj)) (o : Oper) (r : Rs) (env : List (Nat × AV)) (a : Act) (w : World) (a' : Act) (w' : World) : Prop :=
  ∃ q v, a' = a.put o.dst v ∧ St F q (killEs r.ks env) r.M a w' ∧ RelV q.β (Imm F q r.M w') w' r.av v ∧
    (quiet o = true → Ext w w' ∧ ∀ k, Live M k → k ∉ r.ks → Live r.M k ∧ q.β k = p.β k)

theorem St.wrO {d : Option Nat} (h : St F p env M a w) (x : AV) (v : Value) (hx : RelV p.β (Imm F p M w) w x v) (hd : ∀ k, d = some k → F.ok k) : St F p (wr d x env) M (a.put d v) w := by
  cases d with
  | none => exact h
  | some k => exact h.write k x v hx (hd k rfl)

theorem strip_ok (h : St F p env M a w) (x : Operand) (hs : (rd env x).sc) : RelV p.β (Imm F p M w) w (rd env x).strip (a.eval x) := RelV.strip _ _ hs (rd_ok h x)

/-- What is not more than one cell. -/
theorem oneM_ok (hp : Hp F p M w) {x : AV} {v : Value} (r : RelV p.β (Imm F p M w) w x v) (h : oneM M x = true) : v.oneCell' = true := by
  cases x with
  | d y => simp only [RelV] at r; exact RelD.one h r
  | own k =>
    simp only [RelV] at r
    subst r
    simp only [oneM] at h
    cases hx : go M k with
    | none => rw [hx] at h; cases h
    | some o => exact (hp.objs k o hx).one
  | box k o => simp only [RelV] at r; obtain ⟨b, _, rfl⟩ := r; rfl
  | elt k s i j => simp only [RelV] at r; obtain ⟨b, n, c, _, rfl⟩ := r; rfl
  | fn f l => simp only [RelV] at r; obtain ⟨vs, rfl, _⟩ := r; rfl
  | any => cases h
  | agg l => cases h
  | tup l => cases h
  | gd q v => cases h

theorem one_cells {v : Value} (h : v.oneCell' = true) : v.cells = #[v] := by cases v <;> simp [Value.oneCell'] at h <;> rfl

theorem vcells_ok (hp : Hp F p M w) {x : AV} {l : List AV} {v : Value} (h : vcells M x = some l) (r : RelV p.β (Imm F p M w) w x v) : RelL p.β (Imm F p M w) w l v.cells.toList := by
  have key : oneM M x = true → l = [x] → RelL p.β (Imm F p M w) w l v.cells.toList := fun h1 h2 => by
    rw [one_cells (oneM_ok hp r h1), h2]
    simp only [RelL]
    exact ⟨v, [], rfl, r, rfl⟩
  cases x with
  | agg l' =>
    simp only [vcells, Option.some.injEq] at h
    subst h
    simp only [RelV] at r
    obtain ⟨vs, rfl, hl⟩ := r
    simpa [Value.cells] using hl
  | _ =>
    simp only [vcells] at h
    split at h
    · rename_i h1; cases h; exact key h1 rfl
    · cases h

theorem RelL.one (hp : Hp F p M w) : (l : List AV) → (vs : List Value) → RelL p.β (Imm F p M w) w l vs → (∀ x, x ∈ l → oneM M x = true) → ∀ u ∈ vs, u.oneCell' = true
  | [], vs, h, _, u, hu => by simp only [RelL] at h; subst h; cases hu
  | x :: l, vs, h, h1, u, hu => by
    simp only [RelL] at h
    obtain ⟨v, us, rfl, hv, hr⟩ := h
    rcases List.mem_cons.1 hu with rfl | hu
    · exact oneM_ok hp hv (h1 x (by simp))
    · exact RelL.one hp l us hr (fun y hy => h1 y (by simp [hy])) u hu

end
end Go.Am

/- The abstract machine: operations are sound. -/
namespace Go.Am
open Go.RowKit

theorem foldl_set (off : Nat) : ∀ (vs : List Value) (k : Nat) (cells : Array Value), off + k + vs.length ≤ cells.size →
    ((vs.zipIdx k).foldl (fun (cs : Array Value) (x : Value × Nat) => cs.setIfInBounds (off + x.2) x.1) cells).toList = cells.toList.take (off + k) ++ vs ++ cells.toList.drop (off + k + vs.length)
  | [], k, cells, _ => by simp
  | v :: r, k, cells, h => by
    simp only [List.zipIdx_cons, List.foldl_cons]
    simp only [List.length_cons] at h
    rw [foldl_set off r (k + 1) (cells.setIfInBounds (off + k) v) (by simp; omega)]
    simp only [Array.toList_setIfInBounds, List.length_cons]
    have h1 : (cells.toList.set (off + k) v).take (off + (k + 1)) = cells.toList.take (off + k) ++ [v] := by
      apply List.ext_getElem?
      intro j
      simp only [List.getElem?_take, List.getElem?_set, List.getElem?_append, List.length_take, Array.length_toList]
      by_cases hj : j < off + k
      · rw [if_pos (by omega), if_neg (by omega), if_pos (by omega), if_pos hj]
      · by_cases hj2 : j = off + k
        · subst hj2
          rw [if_pos (by omega), if_pos rfl, if_pos (by omega), if_neg (by omega), Nat.min_eq_left (by omega)]; simp
        · rw [if_neg (by omega), if_neg (by omega), Nat.min_eq_left (by omega)]
          simp; omega
    have h2 : (cells.toList.set (off + k) v).drop (off + (k + 1) + r.length) = cells.toList.drop (off + k + (r.length + 1)) := by
      rw [List.drop_set_of_lt (by omega)]; congr 1; omega
    rw [h1, h2]
    simp

section
variable {F : Fr} {p : Pl} {env : List (Nat × AV)} {M : List (Nat × AObj)} {a : Act} {w : World} {P : Program}

theorem evFill_ok (hp : Hp F p M w) (place : Nat → Option (Nat × Nat)) : (parts : List (Nat × AV)) → (vals : List (Nat × Value)) → (l : List AV) → (cells : Array Value) → RelL p.β (Imm F p M w) w l cells.toList →
    (vals.map (·.1) = parts.map (·.1)) → (∀ (j : Nat) x v, (parts[j]?).map (·.2) = some x → (vals[j]?).map (·.2) = some v → RelV p.β (Imm F p M w) w x v) → vals.length = parts.length →
    {l' : List AV} → evFill place M l parts = some l' → ∃ cells', Instr.fill place cells vals = some cells' ∧ RelL p.β (Imm F p M w) w l' cells'.toList
  | [], [], l, cells, h, _, _, _, l', he => by
    simp only [evFill, Option.some.injEq] at he
    subst he
    exact ⟨cells, rfl, h⟩
  | [], _ :: _, _, _, _, _, _, hl, _, _ => by simp at hl
  | _ :: _, [], _, _, _, _, _, hl, _, _ => by simp at hl
  | (i, x) :: parts, (i', v) :: vals, l, cells, h, hm, hr, hl, l', he => by
    simp only [List.map_cons, List.cons.injEq] at hm
    obtain ⟨rfl, hm⟩ := hm
    simp only [evFill] at he
    split at he
    · rename_i off size ls hpl hvc
      split at he
      · rename_i hc
        have hv := hr 0 x v (by simp) (by simp)
        have hls := vcells_ok hp hvc hv
        have hlen := RelL.len _ _ hls
        have hcl := RelL.len _ _ h
        simp only [Array.length_toList] at hlen hcl
        have hf := foldl_set off v.cells.toList 0 cells (by simp; omega)
        obtain ⟨cells', h1, h2⟩ := evFill_ok hp place parts vals (splice l off ls) ((v.cells.zipIdx.foldl (fun cs (c, j) => cs.setIfInBounds (off + j) c) cells)) (by
          rw [← Array.foldl_toList, Array.toList_zipIdx, hf]
          simp only [splice, Nat.add_zero, Array.length_toList, hlen]
          exact RelL.append _ _ _ _ (RelL.append _ _ _ _ (RelL.take _ _ _ h) hls) (RelL.drop _ _ _ h)) hm (fun j y u hy hu => hr (j + 1) y u (by simpa using hy) (by simpa using hu)) (by simpa using hl) he
        refine ⟨cells', ?_, h2⟩
        simp only [Instr.fill, hpl]
        rw [if_neg]
        · exact h1
        · simp only [ne_eq, Bool.or_eq_true, decide_eq_true_eq, not_or, Decidable.not_not, Nat.not_lt]
          omega
      · cases he
    · cases he

/-- an operation that only gives a value -/
theorem pure_ok (h : St F p env M a w) {o : Oper} {q : Prop × AV} {r : Value} (hr : (execOp a.eval o).run P w = .ok (.value r) w) (hx : RelV p.β (Imm F p M w) w q.2 r) (Q : Exit → Act → World → Prop) :
    o.wp P a w (Post F p M o (pureR q M) env a w) Q :=
  wp_val hr ⟨p, r, rfl, h, hx, fun _ => ⟨Ext.refl w, fun k hk _ => ⟨hk, rfl⟩⟩⟩

theorem scL_get {l : List AV} (h : scL l) : ∀ x, x ∈ l → x.sc := by
  induction l with
  | nil => intro x hx; cases hx
  | cons y l ih =>
    simp only [scL] at h
    intro x hx
    rcases List.mem_cons.1 hx with rfl | hx
    · exact h.1
    · exact ih h.2 x hx

theorem rel_args (h : St F p env M a w) (β : Nat → Value) : (l : List Operand) → scL (l.map (rd env)) → RelL β (All F w) w (l.map fun x => viewA M (rd env x).strip) (l.map a.eval)
  | [], _ => by simp [RelL]
  | x :: l, hs => by
    simp only [List.map_cons, scL] at hs
    simp only [List.map_cons, RelL]
    exact ⟨a.eval x, l.map a.eval, rfl, viewA_ok h.hp β _ _ (strip_ok h x hs.1), rel_args h β l hs.2⟩

mutual
theorem noRefs_rel {β β' : Nat → Value} {Im : Nat → Prop} : (x : AV) → (v : Value) → x.refs = false → RelV β Im w x v → RelV β' Im w x v
  | .any, v, _, r => by simp only [RelV]
  | .d x, v, _, r => by simpa only [RelV] using r
  | .own k, v, h, r => by simp [AV.refs] at h
  | .box k o, v, h, r => by simp [AV.refs] at h
  | .elt k s i j, v, h, r => by simp [AV.refs] at h
  | .agg l, v, h, r => by
    simp only [RelV] at r ⊢
    obtain ⟨vs, hv, hl⟩ := r
    exact ⟨vs, hv, noRefs_relL l vs (by simpa only [AV.refs] using h) hl⟩
  | .tup l, v, h, r => by
    simp only [RelV] at r ⊢
    obtain ⟨vs, hv, hl⟩ := r
    exact ⟨vs, hv, noRefs_relL l vs (by simpa only [AV.refs] using h) hl⟩
  | .gd q x, v, h, r => by
    simp only [RelV] at r ⊢
    exact ⟨fun hq => noRefs_rel x v (by simpa only [AV.refs] using h) (r.1 hq), r.2⟩
  | .fn f l, v, h, r => by
    simp only [RelV] at r ⊢
    obtain ⟨vs, hv, hl⟩ := r
    exact ⟨vs, hv, noRefs_relL l vs (by simpa only [AV.refs] using h) hl⟩
theorem noRefs_relL {β β' : Nat → Value} {Im : Nat → Prop} : (l : List AV) → (vs : List Value) → AV.refsL l = false → RelL β Im w l vs → RelL β' Im w l vs
  | [], vs, _, r => by simpa only [RelL] using r
  | x :: l, vs, h, r => by
    simp only [AV.refsL, Bool.or_eq_false_iff] at h
    simp only [RelL] at r ⊢
    obtain ⟨u, us, hv, hx, hr⟩ := r
    exact ⟨u, us, hv, noRefs_rel x u h.1 hx, noRefs_relL l us h.2 hr⟩
end

theorem view_noRefs : (x : AV) → x.refs = false → (∃ y, x = .d y ∧ viewA M x = .d y) ∨ (∃ l, x = .agg l ∨ x = .tup l) ∨ viewA M x = .any
  | .any, _ => .inr (.inr rfl)
  | .d y, _ => .inl ⟨y, rfl, rfl⟩
  | .own k, h => by simp [AV.refs] at h
  | .box k o, h => by simp [AV.refs] at h
  | .elt k s i j, h => by simp [AV.refs] at h
  | .agg l, _ => .inr (.inl ⟨l, .inl rfl⟩)
  | .tup l, _ => .inr (.inl ⟨l, .inr rfl⟩)
  | .gd q v, _ => .inr (.inr rfl)
  | .fn f l, _ => .inr (.inr rfl)

theorem view1_noRefs {β : Nat → Value} : (l : List AV) → (vs : List Value) → AV.refsL l = false → RelL p.β (Imm F p M w) w l vs → RelL β (Imm F p M w) w (l.map fun x => .d (view1 M x)) vs
  | [], vs, _, r => by simpa only [RelL, List.map_nil] using r
  | x :: l, vs, h, r => by
    simp only [AV.refsL, Bool.or_eq_false_iff] at h
    simp only [RelL] at r
    obtain ⟨u, us, rfl, hu, hr⟩ := r
    simp only [List.map_cons, RelL]
    refine ⟨u, us, rfl, ?_, view1_noRefs l us h.2 hr⟩
    cases x with
    | d y => simpa only [view1, RelV] using hu
    | own k => simp [AV.refs] at h
    | _ => simp only [view1, RelV, RelD]

theorem rel_args' (h : St F p env M a w) (β : Nat → Value) : (l : List Operand) → scL (l.map (rd env)) → ((l.map fun x => (rd env x).strip.refs) = l.map fun _ => false) → RelL β (Imm F p M w) w (l.map fun x => viewA M (rd env x).strip) (l.map a.eval)
  | [], _, _ => by simp [RelL]
  | x :: l, hs, hr => by
    simp only [List.map_cons, scL] at hs
    simp only [List.map_cons, List.cons.injEq] at hr
    simp only [List.map_cons, RelL]
    refine ⟨a.eval x, l.map a.eval, rfl, ?_, rel_args' h β l hs.2 hr.2⟩
    have hx := strip_ok h x hs.1
    generalize (rd env x).strip = y at hx hr
    rcases view_noRefs (M := M) y hr.1 with ⟨z, rfl, he⟩ | ⟨l', rfl | rfl⟩ | he
    · rw [he]; simpa only [RelV] using hx
    · simp only [RelV] at hx
      obtain ⟨vs, hv, hl⟩ := hx
      simp only [viewA, RelV]
      exact ⟨vs, hv, view1_noRefs l' vs (by simpa only [AV.refs] using hr.1) hl⟩
    · simp only [RelV] at hx
      obtain ⟨vs, hv, hl⟩ := hx
      simp only [viewA, RelV]
      exact ⟨vs, hv, view1_noRefs l' vs (by simpa only [AV.refs] using hr.1) hl⟩
    · rw [he]; simp only [RelV]

end
end Go.Am

/- The abstract machine: every operation is sound. -/
namespace Go.Am
open Go.RowKit

section
variable {F : Fr} {p : Pl} {env : List (Nat × AV)} {M : List (Nat × AObj)} {a : Act} {w : World} {P : Program} {Φ : FuncId → List AV → CtR}

/-- The contracts that are used hold. -/
def Good (P : Program) (Φ : FuncId → List AV → CtR) : Prop := ∀ f args, (Φ f args).pre → Spec P f args (Φ f args).sh (Φ f args).res (Φ f args).objs

theorem new_live {k : Nat} {v : Value} {r : Nat → Prop} {o : AObj} : ∀ q, Live M q → q ∉ [k] → Live ((k, o) :: delM k M) q ∧ (p.upd k v r).β q = p.β q := fun q hq hqn => by
  have hne : q ≠ k := by simpa using hqn
  refine ⟨?_, by simp [Pl.upd, hne]⟩
  have := live_delM.2 ⟨hne, hq⟩
  unfold Live at this ⊢
  simpa only [go, if_neg (Ne.symm hne)] using this

theorem new_lives {k : Nat} {ks : List Nat} {v : Value} {r : Nat → Prop} {o : AObj} {q : Nat} (hq : Live M q) (hqn : q ∉ ks ++ [k]) : Live ((k, o) :: delM k (delMs ks M)) q ∧ (p.upd k v r).β q = p.β q := by
  simp only [List.mem_append, List.mem_singleton, not_or] at hqn
  exact new_live q (live_delMs.2 ⟨hqn.1, hq⟩) (by simpa using hqn.2)

theorem RelL.repl {β : Nat → Value} {Im : Nat → Prop} (l : List AV) (vs : List Value) (h : RelL β Im w l vs) : ∀ n, RelL β Im w (List.replicate n l).flatten (List.replicate n vs).flatten
  | 0 => by simp [RelL]
  | n + 1 => by simp only [List.replicate_succ, List.flatten_cons]; exact RelL.append _ _ _ _ h (RelL.repl l vs h n)

theorem spec_call {f : FuncId} {args : List AV} {sh : Bool} {res : AV} {objs : List (Nat × AObj)} (hs : Spec P f args sh res objs) (h : St F p env M a w) {o : Oper} (vs : List Value) (A : Nat → Prop) (hA : ∀ b, A b → b < w.heap.size) (hA2 : sh = true → ∀ b, A b → Imm F p M w b)
    (β : Nat → Value) (hargs : RelL β A w args vs) (hr : (execOp a.eval o).run P w = .ok (.enter f vs.toArray) w) (Q : Exit → Act → World → Prop) {d : Nat} {vc : Prop} :
    o.wp P a w (Post F p M o ⟨vc, res.ren (keysM objs) (cid d), (keysM objs).map (cid d), renM d (keysM objs) objs ++ delMs ((keysM objs).map (cid d)) M⟩ env a w) Q := by
  unfold Oper.wp
  rw [hr, Oper.upon_enter]
  refine (hs.2 A w β vs hA hargs).mono fun e w' ⟨v, p', he, hres, hp'⟩ => ?_
  subst he
  obtain ⟨q, h1, h2, h3⟩ := h.call d hA2 hp' hres
  refine ⟨q, v, rfl, h1, h2, fun _ => ⟨⟨hp'.os, hp'.tape, hp'.output, hp'.size, fun b hb => hp'.old b hb (fun h => h)⟩, fun k hk hks => h3 k hk hks⟩⟩

theorem evOp_ok (hΦ : Good P Φ) (h : St F p env M a w) (o : Oper) (hv : (evOp P Φ o (rd env) M).vc) (Q : Exit → Act → World → Prop) : o.wp P a w (Post F p M o (evOp P Φ o (rd env) M) env a w) Q := by
  obtain ⟨dst, op, ty', pos, after, guard⟩ := o
  cases op
  case move x => exact pure_ok h (r := a.eval x) (by simp [execOp]) (rd_ok h x) Q
  case assign x => exact pure_ok h (r := a.eval x) (by simp [execOp]) (rd_ok h x) Q
  case pick c x y =>
    simp only [evOp, pureR] at hv
    obtain ⟨r, h1, h2⟩ := evPick_ok (P := P) _ _ _ _ _ _ (rd_ok h c) (rd_ok h x) (rd_ok h y) hv
    refine pure_ok h (r := r) ?_ h2 Q
    simp only [Sem.run_bind, Sem.run_pure] at h1
    simp only [execOp, Sem.run_bind, Sem.run_pure]
    cases hc : (asBool (a.eval c)).run P w with
    | ok b w1 => rw [hc] at h1; simp only [Result.andThen_ok, Result.ok.injEq] at h1 ⊢; rw [h1.1, h1.2]; exact ⟨rfl, rfl⟩
    | halt hh w1 => rw [hc] at h1; simp at h1
  case nilCheck x =>
    simp only [evOp, pureR, u1] at hv
    obtain ⟨⟨ad, h1⟩, h2⟩ := evNil_ok _ _ (strip_ok h x hv.1) hv.2
    exact pure_ok h (r := a.eval x) (by simp [execOp, h1]) h2 Q
  case load t x =>
    simp only [evOp, pureR, ok1, u1] at hv
    obtain ⟨r, h1, h2⟩ := evLoad_ok h.hp _ _ hv.1 (strip_ok h x hv.2.1) hv.2.2
    exact pure_ok h (r := r) (by simp [execOp, h1]) h2 Q
  case fieldAddr t x i =>
    simp only [evOp, pureR, ok1, u1] at hv
    obtain ⟨r, h1, h2⟩ := evFldA_ok _ _ hv.1 (strip_ok h x hv.2.1) hv.2.2
    exact pure_ok h (r := r) (by simp [execOp, h1]) h2 Q
  case field t x i =>
    simp only [evOp, pureR, ok1, u1] at hv
    obtain ⟨r, h1, h2⟩ := evFld_ok _ _ hv.1 (strip_ok h x hv.2.1) hv.2.2
    exact pure_ok h (r := r) (by simp [execOp, h1]) h2 Q
  case indexAddr t x i =>
    simp only [evOp, pureR, ok1, u2] at hv
    obtain ⟨r, h1, h2⟩ := evIxA_ok h.hp _ _ _ _ hv.1 (strip_ok h x hv.2.1) (strip_ok h i hv.2.2.1) hv.2.2.2
    exact pure_ok h (r := r) (by simp [execOp, h1]) h2 Q
  case index t x i =>
    simp only [evOp, pureR, u2] at hv
    obtain ⟨r, h1, h2⟩ := evIx_ok (P := P) t _ _ _ _ (strip_ok h x hv.1) (strip_ok h i hv.2.1) hv.2.2
    exact pure_ok h (r := r) (by simp [execOp, h1]) h2 Q
  case binOp op t x y yt =>
    simp only [evOp, pureR, u2] at hv
    obtain ⟨r, h1, h2⟩ := evBin_ok (P := P) op t x y _ _ _ _ (strip_ok h x hv.1) (strip_ok h y hv.2.1) hv.2.2
    refine pure_ok h (r := r) ?_ h2 Q
    simp only [execOp, Sem.run_bind, Sem.run_pure] at h1 ⊢
    rw [h1]; rfl
  case unOp op t x =>
    simp only [evOp, pureR, u1] at hv
    obtain ⟨r, h1, h2⟩ := evUn_ok (P := P) op _ _ (strip_ok h x hv.1) hv.2
    exact pure_ok h (r := r) (by simp [execOp, h1]) h2 Q
  case convert s d x =>
    simp only [evOp, pureR, u1] at hv
    obtain ⟨r, h1, h2⟩ := evConv_ok (P := P) s d _ _ (strip_ok h x hv.1) hv.2
    exact pure_ok h (r := r) (by simp [execOp, h1]) h2 Q
  case extract x i =>
    simp only [evOp, pureR, u1] at hv
    obtain ⟨r, h1, h2⟩ := evExt_ok (P := P) _ i _ (strip_ok h x hv.1) hv.2
    exact pure_ok h (r := r) (by simp [execOp, h1]) h2 Q
  case alloc e =>
    simp only [evOp] at hv ⊢
    cases dst with
    | none => exact hv.elim
    | some k =>
      cases hz : (ty P e).zero with
      | none => simp only [hz] at hv; exact hv.elim
      | some zs =>
        simp only [hz] at hv ⊢
        obtain ⟨inf, u, hi, hu⟩ := ty_some hv
        rw [ty_of hi hu] at hz
        simp only [tyOf] at hz
        cases hzv : inf.zero with
        | none => rw [hzv] at hz; simp at hz
        | some z =>
          rw [hzv] at hz
          simp only [Option.map_some, Option.some.injEq] at hz
          subst hz
          have hl : RelL p.β (Imm F p M w) w ((z.cells.toList.map valD).map AV.d) z.cells.toList := by
            generalize z.cells.toList = l
            induction l with
            | nil => simp [RelL]
            | cons x l ih => simp only [List.map_cons, RelL]; exact ⟨x, l, rfl, by simp only [RelV]; exact valD_ok _ _ _, ih⟩
          have hst := h.newBox k e _ _ hl
          have hkill : AV.killL k ((z.cells.toList.map valD).map AV.d) = (z.cells.toList.map valD).map AV.d := by
            generalize z.cells.toList = l
            induction l with
            | nil => rfl
            | cons x l ih => simp only [List.map_cons, AV.killL, AV.kill, ih]
          rw [hkill] at hst
          refine wp_val (v := .pointer (some ⟨w.heap.size, 0, none⟩)) (w' := w.alloc (.cells z.cells e)) ?_ ⟨_, _, rfl, by simpa [killEs] using hst, ?_, fun _ => ⟨Ext.of_grown (World.grownBy_alloc w _ none), new_live⟩⟩
          · simp [execOp, Instr.alloc, zeroValue, typeInfo, hi, hzv, newVar, newRow]
          · simp [RelV, Pl.upd]
  case box e x =>
    simp only [evOp] at hv ⊢
    cases dst with
    | none => exact hv.elim
    | some k =>
      cases hvc : vcells M (rd env x).strip with
      | none => simp only [hvc] at hv; exact hv.elim
      | some l =>
        simp only [hvc] at hv ⊢
        have hl := vcells_ok h.hp hvc (strip_ok h x hv)
        have hst := h.newBox k e _ _ hl
        refine wp_val (v := .pointer (some ⟨w.heap.size, 0, none⟩)) (w' := w.alloc (.cells (a.eval x).cells e)) ?_ ⟨_, _, rfl, by simpa [killEs] using hst, ?_, fun _ => ⟨Ext.of_grown (World.grownBy_alloc w _ none), new_live⟩⟩
        · simp [execOp, Instr.box, newVar, newRow]
        · simp [RelV, Pl.upd]
  case build t parts =>
    simp only [evOp] at hv ⊢
    cases hz : (ty P t).zero with
    | none => simp only [hz] at hv; exact hv.elim
    | some zs =>
      simp only [hz] at hv ⊢
      cases hf : evFill (fun i => ((ty P t).fld[i]?).map fun q => (q.1, q.2.2)) M (zs.map .d) (parts.toList.map fun q => (q.1, (rd env q.2).strip)) with
      | none => simp only [hf] at hv; exact hv.elim
      | some l =>
        simp only [hf] at hv ⊢
        obtain ⟨v1, v2, v3⟩ := hv
        obtain ⟨inf, u, hi, hu⟩ := ty_some v2
        rw [ty_of hi hu] at hz hf v3
        simp only [tyOf] at hz hf v3
        cases u <;> simp at v3
        case struct fs =>
          simp only at hf
          cases hzv : inf.zero with
          | none => rw [hzv] at hz; simp at hz
          | some z =>
            rw [hzv] at hz
            simp only [Option.map_some, Option.some.injEq] at hz
            subst hz
            have hl : RelL p.β (Imm F p M w) w ((z.cells.toList.map valD).map AV.d) z.cells.toList := by
              generalize z.cells.toList = l
              induction l with
              | nil => simp [RelL]
              | cons x l ih => simp only [List.map_cons, RelL]; exact ⟨x, l, rfl, by simp only [RelV]; exact valD_ok _ _ _, ih⟩
            obtain ⟨cells', h1, h2⟩ := evFill_ok h.hp (fun i => ((fs.toList.map fun f => (f.offset, f.type, P.cellsOf f.type))[i]?).map fun q => (q.1, q.2.2)) _ (parts.toList.map fun q => (q.1, a.eval q.2)) _ z.cells hl (by simp) (fun j x v hx hvv => by
              simp only [List.getElem?_map, Option.map_map] at hx hvv
              cases hj : parts.toList[j]? with
              | none => rw [hj] at hx; simp at hx
              | some q =>
                rw [hj] at hx hvv
                simp only [Option.map_some, Function.comp, Option.some.injEq] at hx hvv
                subst hx; subst hvv
                exact strip_ok h q.2 (scL_get v1 _ (List.mem_map_of_mem (List.mem_of_getElem? hj)))) (by simp) hf
            have hb : P.built t (parts.toList.map fun q => (q.1, a.eval q.2)) = some cells' := by
              have hplaces : fs.toList.mapM (fun f => (P.info? f.type).map fun i => (f.offset, i.size)) = some (fs.toList.map fun f => (f.offset, P.cellsOf f.type)) := by
                have v3' : ∀ f ∈ fs.toList, (P.info? f.type).isSome = true := fun f hfm => by
                  obtain ⟨i, hi', rfl⟩ := Array.getElem_of_mem (Array.mem_toList_iff.1 hfm)
                  exact v3 i hi'
                generalize fs.toList = l at v3'
                induction l with
                | nil => rfl
                | cons f l ih =>
                  have hf' := v3' f (by simp)
                  cases hif : P.info? f.type with
                  | none => rw [hif] at hf'; cases hf'
                  | some i' =>
                    simp only [List.mapM_cons, Option.map_some, List.map_cons, ih (fun g hg => v3' g (by simp [hg])), Program.cellsOf, hif]
                    rfl
              simp only [Program.built, hi, hu, hzv, hplaces]
              rw [← h1]
              congr 1
              funext i
              simp [List.getElem?_map]
              cases fs[i]? <;> rfl
            refine pure_ok h (r := .agg cells') ?_ (q := (True, .agg l)) ?_ Q
            · have := run_build w t ((parts.toList.map fun q => (q.1, a.eval q.2)).toArray) cells' (by simpa using hb)
              simp only [execOp, Sem.run_bind]
              rw [show (parts.map fun x => match x with | (i, x) => (i, a.eval x)) = (parts.toList.map fun q => (q.1, a.eval q.2)).toArray from by
                apply Array.ext'; simp]
              rw [this]; rfl
            · simp only [RelV]
              exact ⟨cells'.toList, by simp, h2⟩
  case buildSlice t n parts =>
    simp only [evOp] at hv ⊢
    cases dst with
    | none => exact hv.elim
    | some k =>
      cases he : (ty P t).el with
      | none => simp only [he] at hv; exact hv.elim
      | some e =>
        simp only [he] at hv ⊢
        cases hz : (ty P e).zero with
        | none => simp only [hz] at hv; exact hv.elim
        | some zs =>
          simp only [hz] at hv ⊢
          cases hf : evFill (fun i => some (i * (ty P e).size, (ty P e).size)) M ((List.replicate n (zs.map .d)).flatten) (parts.toList.map fun q => (q.1, (rd env q.2).strip)) with
          | none => simp only [hf] at hv; exact hv.elim
          | some cs =>
            simp only [hf] at hv ⊢
            cases hcs : cellsD M cs with
            | none => simp only [hcs] at hv; exact hv.elim
            | some q =>
              obtain ⟨ds, ks, fr⟩ := q
              simp only [hcs] at hv ⊢
              obtain ⟨v1, v2, v3, v4, v5, v6, v7, v8, v9⟩ := hv
              obtain ⟨inf, u, hi, hu⟩ := ty_some v2
              obtain ⟨infe, ue, hie, hue⟩ := ty_some v3
              have hse : (ty P e).size = infe.size := by rw [ty_of hie hue]; rfl
              rw [hse] at hf v4 v5 v7 ⊢
              rw [ty_of hi hu] at he
              rw [ty_of hie hue] at hz
              simp only [tyOf] at he hz
              cases u <;> simp at he
              obtain rfl := he.symm
              cases hzv : infe.zero with
              | none => rw [hzv] at hz; simp at hz
              | some z =>
                rw [hzv] at hz
                simp only [Option.map_some, Option.some.injEq] at hz
                subst hz
                have hzl : z.cells.size = infe.size := by simpa using v4
                have hz0 : ∀ m, (madeCells z.cells (m * infe.size)).toList = (List.replicate m z.cells.toList).flatten := by
                  intro m
                  apply List.ext_getElem?
                  intro j
                  by_cases hj : j < m * infe.size
                  · have hpos : 0 < infe.size := by rcases Nat.eq_zero_or_pos infe.size with h0 | h0; · rw [h0] at hj; omega
                                                    · exact h0
                    have hmod := Nat.mod_lt j hpos
                    have h1 : (madeCells z.cells (m * infe.size)).toList[j]? = some (z.cells[j % z.cells.size]!) := by simp [madeCells, hj]
                    rw [h1, hzl]
                    have key : ∀ (m j : Nat), j < m * infe.size → ((List.replicate m z.cells.toList).flatten)[j]? = some z.cells[j % infe.size]! := by
                      intro m
                      induction m with
                      | zero => intro j hj; omega
                      | succ m ih =>
                        intro j hj
                        rw [List.replicate_succ, List.flatten_cons, List.getElem?_append]
                        simp only [Array.length_toList, hzl]
                        by_cases hjs : j < infe.size
                        · rw [if_pos hjs, Nat.mod_eq_of_lt hjs]
                          simp [hzl, hjs, getElem!_pos]
                        · rw [if_neg hjs, ih (j - infe.size) (by rw [Nat.add_mul] at hj; omega)]
                          congr 2
                          rw [← Nat.mod_eq_sub_mod (by omega)]
                    rw [key m j hj]
                  · rw [List.getElem?_eq_none (by simp [madeCells]; omega), List.getElem?_eq_none]
                    simp [hzl]; omega
                have hl : RelL p.β (Imm F p M w) w ((List.replicate n ((z.cells.toList.map valD).map AV.d)).flatten) (madeCells z.cells (n * infe.size)).toList := by
                  rw [hz0]
                  have hl1 : RelL p.β (Imm F p M w) w ((z.cells.toList.map valD).map AV.d) z.cells.toList := by
                    generalize z.cells.toList = l
                    induction l with
                    | nil => simp [RelL]
                    | cons x l ih => simp only [List.map_cons, RelL]; exact ⟨x, l, rfl, by simp only [RelV]; exact valD_ok _ _ _, ih⟩
                  exact RelL.repl _ _ hl1 n
                obtain ⟨cells', h1, h2⟩ := evFill_ok h.hp (fun i => some (i * infe.size, infe.size)) _ (parts.toList.map fun q => (q.1, a.eval q.2)) _ _ hl (by simp) (fun j x v hx hvv => by
                  simp only [List.getElem?_map, Option.map_map] at hx hvv
                  cases hj : parts.toList[j]? with
                  | none => rw [hj] at hx; simp at hx
                  | some q =>
                    rw [hj] at hx hvv
                    simp only [Option.map_some, Function.comp, Option.some.injEq] at hx hvv
                    subst hx; subst hvv
                    exact strip_ok h q.2 (scL_get v1 _ (List.mem_map_of_mem (List.mem_of_getElem? hj)))) (by simp) hf
                obtain ⟨r, hst⟩ := h.newArr k _ infe.size n cs cells'.toList ds ks fr hcs v8 v9 h2 v7 v6
                rw [← killEs_snoc] at hst
                refine wp_val (v := .slice (some ⟨w.heap.size, 0, none⟩) n n) (w' := w.alloc (.cells cells' _)) ?_ ⟨_, _, rfl, by simpa using hst, by simp [RelV, Pl.upd], fun _ => ⟨by simpa using Ext.of_grown (World.grownBy_alloc w _ none), fun q hq hqn => new_lives hq hqn⟩⟩
                have h1' : Instr.fill (fun i => some (i * infe.size, infe.size)) ((Array.range (n * infe.size)).map fun x => z.cells[x % z.cells.size]!) (parts.map fun x => match x with | (i, x) => (i, a.eval x)).toList = some cells' := by
                  rw [← h1]; simp [madeCells]
                have hsmall : ¬ (16777216 < n * infe.size) := by omega
                by_cases h0 : n * infe.size = 0
                · simp only [execOp, Instr.buildSlice, run_underlying hu, sizeOf, typeInfo, run_program, hie, Sem.run_bind, Sem.run_pure, Result.andThen_ok, Sem.run_ite, h0, if_true]
                  rw [h0] at h1'
                  simp only [show (Array.range 0).map (fun x => (#[] : Array Value)[x % (#[] : Array Value).size]!) = (Array.range 0).map fun x => z.cells[x % z.cells.size]! from by simp, h1']
                  simp [newRow]
                · simp [execOp, Instr.buildSlice, run_underlying hu, sizeOf, typeInfo, hie, hsmall, h0, zeroValue, hzv, newRow]
                  simp at h1'
                  simp [h1']
  case makeSlice t l c =>
    simp only [evOp] at hv ⊢
    cases dst with
    | none => exact hv.elim
    | some k =>
      cases he : (ty P t).el with
      | none => simp only [he] at hv; exact hv.elim
      | some e =>
        simp only [he] at hv ⊢
        split at hv
        · rename_i k' e' kl nl kc nc hk' he' hl hc
          obtain rfl := Option.some.inj hk'
          obtain rfl := Option.some.inj he'
          split at hv
          · rename_i z hz
            have hsc : (rd env l).sc ∧ (rd env c).sc := by split at hv <;> exact ⟨hv.1, hv.2.1⟩
            have hok : (ty P t).ok = true ∧ (ty P e).ok = true ∧ (ty P e).size = 1 := by split at hv <;> exact ⟨hv.2.2.1, hv.2.2.2.1, hv.2.2.2.2.1⟩
            have hlv := strip_ok h l hsc.1
            have hcv := strip_ok h c hsc.2
            rw [hl] at hlv
            rw [hc] at hcv
            simp only [RelV, RelD] at hlv hcv
            obtain ⟨inf, u, hi, hu⟩ := ty_some hok.1
            obtain ⟨infe, ue, hie, hue⟩ := ty_some hok.2.1
            rw [ty_of hi hu] at he
            have hz2 := hz
            rw [ty_of hie hue] at hz hok
            simp only [tyOf] at he hz hok
            cases u <;> simp at he
            obtain rfl := he.symm
            cases hzv : infe.zero with
            | none => rw [hzv] at hz; simp at hz
            | some zv =>
              rw [hzv] at hz
              simp only [Option.map_some, Option.some.injEq] at hz
              obtain ⟨z0, hz0, rfl⟩ : ∃ z0, zv.cells = #[z0] ∧ valD z0 = z := by
                cases hzc : zv.cells.toList with
                | nil => rw [hzc] at hz; simp at hz
                | cons z0 r =>
                  rw [hzc] at hz
                  simp only [List.map_cons, List.cons.injEq, List.map_eq_nil_iff] at hz
                  obtain ⟨h1, rfl⟩ := hz
                  exact ⟨z0, by apply Array.ext'; simpa using hzc, h1⟩
              have hby : (ty P e).bytes = infe.bytes := by rw [ty_of hie hue]; rfl
              split at hv
              · rename_i hnc
                obtain ⟨_, _, _, _, _, v6, v7, v8⟩ := hv
                subst hnc
                rw [hby] at v8
                obtain ⟨n, rfl⟩ := Int.eq_ofNat_of_zero_le v6
                have v8' : infe.bytes * n ≤ 281474976710656 := by have : ((infe.bytes * n : Nat) : Int) ≤ (nb : Int) := by rw [Int.natCast_mul]; exact v8
                                                                  simp only [nb] at this; omega
                have v7' : n ≤ nb := by omega
                obtain ⟨w', hrun, hown, hg⟩ := run_make_full (P := P) w 0 t e infe zv 1 hu hie hzv hok.2.2 kl kc n v8' (by simp only [nb] at v7'; simp only [maxLen]; omega) (Nat.zero_le _)
                rw [hz0, Nat.mul_one, toList_madeCells_one] at hown
                have hst := h.newMade k e n z0 w' _ hown hg (fun b hb => by
                  simp only [root, Option.some.injEq] at hb
                  subst hb
                  refine ⟨Nat.le_refl _, ?_⟩
                  rcases hown.2 with ⟨hq, _⟩ | ⟨g, cap, cur, hq, _, hgg, _⟩
                  · cases hq
                  · simp only [Value.slice.injEq, Option.some.injEq, Addr.mk.injEq] at hq
                    rw [hq.1.1]; exact (Array.getElem?_eq_some_iff.1 hgg).1) v7'
                simp only [if_true]
                refine wp_val (v := .slice (some ⟨w.heap.size, 0, none⟩) n n) (w' := w') ?_ ⟨_, _, rfl, by simpa [killEs] using hst, by simp [RelV, Pl.upd], fun _ => ⟨Ext.of_grown hg, new_live⟩⟩
                simp [execOp, hlv.1, hcv.1, hrun]
              · rename_i hnc
                obtain ⟨_, _, _, _, _, v6, v7, v8, v9⟩ := hv
                subst v6
                rw [hby] at v9
                obtain ⟨n, rfl⟩ := Int.eq_ofNat_of_zero_le v7
                have v8' : infe.bytes * n ≤ 281474976710656 := by have : ((infe.bytes * n : Nat) : Int) ≤ (nb : Int) := by rw [Int.natCast_mul]; exact v9
                                                                  simp only [nb] at this; omega
                have v7' : n ≤ nb := by omega
                obtain ⟨w', hrun, hown, hg⟩ := run_make_own (P := P) w 0 t e infe zv 1 hu hie hzv hok.2.2 kl kc n v8' (by simp only [nb] at v7'; simp only [maxLen]; omega) (Nat.zero_le _)
                have hst := h.newMade k e 0 z0 w' _ (by simpa using hown) hg (fun b hb => by
                  simp only [root, Option.some.injEq] at hb
                  subst hb
                  refine ⟨Nat.le_refl _, ?_⟩
                  rcases hown.2 with ⟨hq, _⟩ | ⟨g, cap, cur, hq, _, hgg, _⟩
                  · cases hq
                  · simp only [Value.slice.injEq, Option.some.injEq, Addr.mk.injEq] at hq
                    rw [hq.1.1]; exact (Array.getElem?_eq_some_iff.1 hgg).1) (Nat.zero_le _)
                simp only [if_neg hnc]
                refine wp_val (v := .slice (some ⟨w.heap.size, 0, none⟩) 0 n) (w' := w') ?_ ⟨_, _, rfl, by simpa [killEs] using hst, by simp [RelV, Pl.upd], fun _ => ⟨Ext.of_grown hg, new_live⟩⟩
                simp [execOp, hlv.1, hcv.1, hrun]
          · exact hv.elim
        · exact hv.elim
  case store t x y =>
    simp only [evOp] at hv ⊢
    split at hv
    · rename_i k b hx
      split at hv
      · rename_i e l ls hg hvc
        obtain ⟨v1, v2, v3, v4, v5, v6⟩ := hv
        have hxv := strip_ok h x v1
        rw [hx] at hxv
        simp only [RelV] at hxv
        obtain ⟨blk, hβ, hxe⟩ := hxv
        have hls := vcells_ok h.hp hvc (strip_ok h y v2)
        obtain ⟨w', hrun, hst⟩ := h.storeBox (P := P) k e l hg blk b hβ ls _ hls (RelL.one h.hp ls _ hls v6) v5
        have hlen := RelL.len _ _ hls
        obtain ⟨inf, u, hi, hu⟩ := ty_some v3
        rw [ty_of hi hu] at v4
        simp only [tyOf] at v4
        refine wp_skip' (w' := w') ?_ ⟨p, undef, rfl, by simpa [killEs] using hst, by simp only [RelV], fun hq => by cases hq⟩
        have hsz : ¬ ((a.eval y).cells.size ≠ inf.size) := by simp at hlen ⊢; omega
        simp only [ne_eq, Decidable.not_not] at hsz
        simp [execOp, Instr.storeAt, Instr.sureAddr, hxe, storeVar, sizeOf, typeInfo, hi, hsz, hrun]
      · exact hv.elim
    · rename_i k s i j hx
      split at hv
      · rename_i fr e sz n f d ks frx hg hcs
        obtain ⟨v1, v2, v3, v4, rfl, v6, v7, v8, v9, v10⟩ := hv
        have hxv := strip_ok h x v1
        rw [hx] at hxv
        simp only [RelV] at hxv
        obtain ⟨blk, n', cap, hβ, hxe⟩ := hxv
        have hyv := strip_ok h y v2
        have hone := oneM_ok h.hp hyv v10
        obtain ⟨w', r, hrun, hst⟩ := h.storeElt (P := P) k fr e s n f _ d ks frx hcs v8 v9 hg i j v6 v7 blk n' cap hβ _ hyv hone
        obtain ⟨inf, u, hi, hu⟩ := ty_some v3
        rw [ty_of hi hu] at v4
        simp only [tyOf] at v4
        refine wp_skip' (w' := w') ?_ ⟨_, undef, rfl, hst, by simp only [RelV], fun hq => by cases hq⟩
        have hc1 := one_cells hone
        simp only [execOp, Instr.storeAt, Instr.sureAddr, hxe, storeVar, sizeOf, typeInfo, hi, hc1, v4, Sem.run_bind, Sem.run_pure, Result.andThen_ok, run_program]
        simp [storeCells, hrun, Addr.add]
      · exact hv.elim
    · exact hv.elim
  case call c =>
    obtain ⟨callee, args, argTypes⟩ := c
    simp only [evOp] at hv ⊢
    split at hv
    · -- len
      split at hv
      · rename_i x t ha ht
        have ha' : args = #[x] := by apply Array.ext'; simpa using ha
        have ht' : argTypes = #[t] := by apply Array.ext'; simpa using ht
        subst ha'; subst ht'
        simp only [pureR, u1] at hv
        obtain ⟨r, h1, h2⟩ := evLen_ok (P := P) (ty' := ty') h.hp _ _ (strip_ok h x hv.1) hv.2
        refine pure_ok h (r := r) ?_ h2 Q
        simp [execOp, resolve, invoke, builtin, h1]
      · exact hv.elim
    · -- append
      split at hv
      · rename_i x y t t' ha ht
        have ha' : args = #[x, y] := by apply Array.ext'; simpa using ha
        have ht' : argTypes = #[t, t'] := by apply Array.ext'; simpa using ht
        subst ha'; subst ht'
        obtain ⟨v1, v2, rfl, v4⟩ := hv
        obtain ⟨r, w', q, hrun, hst, hrv⟩ := evApp_ok (P := P) (ty' := ty') h _ _ _ _ (strip_ok h x v1) (strip_ok h y v2) v4
        refine wp_val (v := r) (w' := w') ?_ ⟨q, r, rfl, hst, hrv, fun hq => by cases hq⟩
        simp [execOp, resolve, invoke, builtin, hrun]
      · exact hv.elim
    · rename_i f
      obtain ⟨v1, v2, v3⟩ := hv
      have hs := hΦ f _ v2
      have hr : (execOp a.eval { dst := dst, op := .call { callee := .value (.func f), args := args, argTypes := argTypes }, type := ty', pos := pos, after := after, guard := guard }).run P w = .ok (.enter f (args.toList.map a.eval).toArray) w := by
        rw [show (args.toList.map a.eval).toArray = args.map a.eval from by apply Array.ext'; simp]
        have hc := hs.1 (args.map a.eval) w
        simp [execOp, resolve, Act.eval, Deferred.ofValue, invoke, hc]
      cases hsh : (Φ f (args.toList.map fun x => viewA M (rd env x).strip)).sh with
      | false =>
        exact spec_call hs h (args.toList.map a.eval) (All F w) (fun b hb => hb.1) (fun hh => by rw [hsh] at hh; cases hh) p.β (rel_args h p.β _ v1) hr Q
      | true =>
        exact spec_call hs h (args.toList.map a.eval) (Imm F p M w) (fun b hb => hb.1) (fun _ b hb => hb) p.β (rel_args' h p.β _ v1 (v3 hsh)) hr Q
    · exact hv.elim
  all_goals exact hv.elim

end
end Go.Am
