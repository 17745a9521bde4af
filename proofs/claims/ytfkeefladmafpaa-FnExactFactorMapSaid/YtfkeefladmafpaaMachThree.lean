/- The abstract machine that the walks of this claim go by: its data, its operations and the proof that each is sound. No condition. -/
import Derived.Test.YtfkeefladmafpaaMachTwo
import Derived.Orders
import Derived.Below
set_option linter.unusedVariables false
/- The abstract machine: regions. -/
namespace Go.Am
open Go.RowKit

/-! ### what an operation leaves where no object is kept -/

def frz1 (ks : List Nat) (M : List (Nat × AObj)) : AV → D
  | .d x => x
  | .own k => if k ∈ ks then (match go M k with | some (.arr _ _ sz n f) => .seq sz n f | _ => .any) else .any
  | _ => .any

/-- New objects become data; old ones stay. -/
def frz (ks : List Nat) (M0 M : List (Nat × AObj)) : AV → AV
  | .d x => .d x
  | .own k => if k ∈ ks then .d (frz1 ks M (.own k)) else if (go M0 k).isSome then .own k else .any
  | .box k o => if k ∈ ks then (match go M k with | some (.cells _ l) => .d (.ptr ((l.drop o).map (frz1 ks M))) | _ => .any) else if (go M0 k).isSome then .box k o else .any
  | .elt k s i j => if k ∈ ks then .any else if (go M0 k).isSome then .elt k s i j else .any
  | .agg l => .agg (l.map fun x => .d (frz1 ks M x))
  | .tup l => .tup (l.map fun x => .d (frz1 ks M x))
  | .gd q x => .gd q (frz ks M0 M x)
  | _ => .any

section
variable {F : Fr} {p : Pl} {env : List (Nat × AV)} {M : List (Nat × AObj)} {a : Act} {w : World} {P : Program} {Φ : FuncId → List AV → CtR}

theorem St.ext (h : St F p env M a w) {w' : World} (e : Ext w w') : St F p env M a w' := by
  have hk : Keep (Imm F p M w) (Imm F p M w') w w' := fun b hb => ⟨⟨by have := e.size; have := hb.1; omega, hb.2⟩, e.old b hb.1⟩
  refine ⟨h.defers, h.nt, fun t => RelV.keep hk _ (fun _ _ => rfl) _ (h.slots t), ⟨fun k o ho => ?_, h.hp.sep, fun k b h1 h2 => ?_, fun k b h1 h2 => ⟨(hk b (h.hp.priv k b h1 h2).1).1, (h.hp.priv k b h1 h2).2⟩, h.hp.apart,
    e.os.trans h.hp.os, e.tape.trans h.hp.tape, e.output.trans h.hp.output, Nat.le_trans h.hp.size e.size, fun b hb hR => ?_⟩⟩
  · have hl := go_live ho
    exact RelO.keep hk (fun b hb => (h.hp.priv k b hl hb).1) o (fun _ _ => rfl) _ (fun b hb => e.old b (h.hp.own k b hl hb).1) (h.hp.objs k o ho)
  · have := h.hp.own k b h1 h2; exact ⟨by have := e.size; omega, this.2⟩
  · rw [e.old b (by have := h.hp.size; omega)]; exact h.hp.old b hb hR

section
variable {q : Pl} {ks : List Nat} {M' : List (Nat × AObj)} (hq : Hp F q M' w) (hks : ∀ k, k ∈ ks → go M k = none) (hold : ∀ k, Live M k → k ∉ ks → Live M' k ∧ q.β k = p.β k)
include hq hks hold

omit hq in
theorem frz_imm {b : Nat} (h : Imm F q M' w b) : Imm F p M w b := by
  refine ⟨h.1, h.2.1, fun k hk => ?_⟩
  have hn : k ∉ ks := fun hm => by have := hks k hm; unfold Live at hk; rw [this] at hk; cases hk
  obtain ⟨h1, h2⟩ := hold k hk hn
  rw [← h2]
  exact h.2.2 k h1

theorem frz_root {k b : Nat} (hk : k ∈ ks) (hl : Live M' k) (h : root (q.β k) = some b) : Imm F p M w b := by
  obtain ⟨h1, h2⟩ := hq.own k b hl h
  refine ⟨h1, h2.elim (fun h => .inr (.inl h.2)) (fun h => .inr (.inr h)), fun j hj => ?_⟩
  have hn : j ∉ ks := fun hm => by have := hks j hm; unfold Live at hj; rw [this] at hj; cases hj
  obtain ⟨h3, h4⟩ := hold j hj hn
  rw [← h4]
  exact hq.sep k j b (fun e => hn (e ▸ hk)) hl h3 h

theorem frz1_ok (x : AV) (u : Value) (h : RelV q.β (Imm F q M' w) w x u) : RelD (Imm F p M w) w (frz1 ks M' x) u := by
  cases x with
  | d y => simp only [RelV] at h; simp only [frz1]; exact RelD.keep (fun b hb => ⟨frz_imm hks hold hb, rfl⟩) y u h
  | own k =>
    simp only [RelV] at h
    subst h
    simp only [frz1]
    split
    · rename_i hk
      cases hg : go M' k with
      | none => simp only [RelD]
      | some o =>
        cases o with
        | cells ty l => simp only [RelD]
        | arr fr e sz n f => exact arr_view hq hg (Imm F p M w) (fun b hb => frz_imm hks hold hb) (fun b hb => frz_root hq hks hold hk (go_live hg) hb)
    · simp only [RelD]
  | any => simp only [frz1, RelD]
  | box k o => simp only [frz1, RelD]
  | elt k s i j => simp only [frz1, RelD]
  | agg l => simp only [frz1, RelD]
  | tup l => simp only [frz1, RelD]
  | gd g v => simp only [frz1, RelD]
  | fn f l => simp only [frz1, RelD]

theorem frz1s_ok : (l : List AV) → (vs : List Value) → RelL q.β (Imm F q M' w) w l vs → RelL p.β (Imm F p M w) w (l.map fun x => .d (frz1 ks M' x)) vs
  | [], vs, h => by simpa only [RelL, List.map_nil] using h
  | x :: l, vs, h => by
    simp only [RelL] at h
    obtain ⟨u, us, rfl, hu, hr⟩ := h
    simp only [List.map_cons, RelL]
    exact ⟨u, us, rfl, by simp only [RelV]; exact frz1_ok hq hks hold x u hu, frz1s_ok l us hr⟩

theorem frz1s_cells {b : Nat} {cs : Array Value} {ty' : TypeId} (hb : w.heap[b]? = some (.cells cs ty' (0, 0))) : (l : List AV) → (o : Nat) → RelL q.β (Imm F q M' w) w l (cs.toList.drop o) → RelC (Imm F p M w) w (l.map (frz1 ks M')) b o
  | [], o, h => by simp only [List.map_nil, RelC]
  | x :: l, o, h => by
    simp only [RelL] at h
    obtain ⟨u, us, he, hu, hr⟩ := h
    have h0 : cs.toList[o]? = some u := by have := congrArg (fun q : List Value => q[0]?) he; simpa using this
    have h1 : cs.toList.drop (o + 1) = us := by have := congrArg (fun q : List Value => q.drop 1) he; simpa [List.drop_drop] using this
    simp only [List.map_cons, RelC]
    refine ⟨⟨u, by rw [cell_of_row w b o cs ty' (0, 0) hb]; simpa using h0, frz1_ok hq hks hold x u hu⟩, frz1s_cells hb l (o + 1) (by rw [h1]; exact hr)⟩

theorem frz_ok : (x : AV) → (u : Value) → RelV q.β (Imm F q M' w) w x u → RelV p.β (Imm F p M w) w (frz ks M M' x) u
  | .d y, u, h => by simp only [frz, RelV] at h ⊢; exact frz1_ok hq hks hold (.d y) u (by simpa only [RelV] using h)
  | .own k, u, h => by
    simp only [frz]
    split
    · simp only [RelV]; exact frz1_ok hq hks hold (.own k) u h
    · rename_i hk
      split
      · rename_i hl
        simp only [RelV] at h ⊢
        rw [← (hold k hl hk).2]; exact h
      · simp only [RelV]
  | .box k o, u, h => by
    simp only [frz]
    split
    · rename_i hk
      cases hg : go M' k with
      | none => simp only [RelV]
      | some ob =>
        cases ob with
        | arr fr e sz n f => simp only [RelV]
        | cells ty' l =>
          simp only [RelV] at h
          obtain ⟨b, hβ, rfl⟩ := h
          have hob := hq.objs k _ hg
          simp only [RelO] at hob
          obtain ⟨b', vs, hβ', hb, hl⟩ := hob
          obtain rfl : b = b' := by rw [hβ] at hβ'; simpa using hβ'
          simp only [RelV, RelD]
          exact ⟨b, o, rfl, frz_root hq hks hold hk (go_live hg) (by rw [hβ]; rfl), frz1s_cells hq hks hold hb (l.drop o) o (RelL.drop o l _ hl)⟩
    · rename_i hk
      split
      · rename_i hl
        simp only [RelV] at h ⊢
        rw [← (hold k hl hk).2]; exact h
      · simp only [RelV]
  | .elt k s i j, u, h => by
    simp only [frz]
    split
    · simp only [RelV]
    · rename_i hk
      split
      · rename_i hl
        simp only [RelV] at h ⊢
        rw [← (hold k hl hk).2]; exact h
      · simp only [RelV]
  | .agg l, u, h => by
    simp only [RelV] at h
    obtain ⟨vs, rfl, hl⟩ := h
    simp only [frz, RelV]
    exact ⟨vs, rfl, frz1s_ok hq hks hold l vs hl⟩
  | .tup l, u, h => by
    simp only [RelV] at h
    obtain ⟨vs, rfl, hl⟩ := h
    simp only [frz, RelV]
    exact ⟨vs, rfl, frz1s_ok hq hks hold l vs hl⟩
  | .gd g x, u, h => by
    simp only [frz, RelV] at h ⊢
    exact ⟨fun hg => frz_ok x u (h.1 hg), h.2⟩
  | .any, u, h => by simp only [frz, RelV]
  | .fn f l, u, h => by simp only [frz, RelV]
end

/-! ### guards -/

def gc : AV → Bool → Prop
  | .d (.bool b), want => b = want
  | .gd p v, want => p ∧ gc v want
  | _, _ => False
def gok : AV → Prop
  | .d (.bool _) => True
  | .gd p v => p → gok v
  | _ => False

def yB (u : Value) : Option Bool := match u with | .bool b => some b | _ => none

theorem gc_ok {β : Nat → Value} {Im : Nat → Prop} : (x : AV) → (u : Value) → (want : Bool) → gok x → RelV β Im w x u → ((yB u == some want) = true ↔ gc x want)
  | .d (.bool b), u, want, _, r => by simp only [RelV, RelD] at r; subst r; simp [yB, gc]
  | .gd p x, u, want, h, r => by
    simp only [RelV] at r
    simp only [gok] at h
    simp only [gc]
    by_cases hp : p
    · rw [gc_ok x u want (h hp) (r.1 hp)]; simp [hp]
    · rw [r.2 hp]; simp [yB, undef, hp]
  | .any, _, _, h, _ => h.elim
  | .own _, _, _, h, _ => h.elim
  | .agg _, _, _, h, _ => h.elim
  | .tup _, _, _, h, _ => h.elim
  | .fn _ _, _, _, h, _ => h.elim
  | .box _ _, _, _, h, _ => h.elim
  | .elt _ _ _ _, _, _, h, _ => h.elim
  | .d .any, _, _, h, _ => h.elim
  | .d (.int _ _), _, _, h, _ => h.elim
  | .d (.str _), _, _, h, _ => h.elim
  | .d (.raw _), _, _, h, _ => h.elim
  | .d (.seq _ _ _), _, _, h, _ => h.elim
  | .d (.ptr _), _, _, h, _ => h.elim

theorem yielded_eq {ops : Array Oper} {tmps : Array Value} {j d : Nat} (hd : (ops[j]?).bind (·.dst) = some d) : yielded ops tmps j = yB (tmps.getD d undef) := by
  unfold yielded
  rw [hd]
  simp only [Option.bind_some]
  rw [Array.getD_eq_getD_getElem?]
  cases tmps[d]? with
  | none => rfl
  | some u => cases u <;> rfl

/-- an operation that is carried out only where its guard lets it, or in whatever order: nothing is kept but data -/
def vcF (o : Oper) (r : Rs) (M : List (Nat × AObj)) : Prop := quiet o = true ∧ (∀ k, k ∈ r.ks → go M k = none) ∧ r.vc
def avF (r : Rs) (M : List (Nat × AObj)) : AV := frz r.ks M r.M r.av

theorem evOp_frz (hΦ : Good P Φ) (h : St F p env M a w) (o : Oper) (hv : vcF o (evOp P Φ o (rd env) M) M) (K : Act → World → Prop) (Q : Exit → Act → World → Prop)
    (hK : ∀ v w', Ext w w' → RelV p.β (Imm F p M w') w' (avF (evOp P Φ o (rd env) M) M) v → K (a.put o.dst v) w') : o.wp P a w K Q := by
  refine Oper.wp_mono (fun a' w' ⟨q, v, h1, h2, h3, h4⟩ => ?_) (evOp_ok hΦ h o hv.2.2 Q)
  obtain ⟨he, hl⟩ := h4 hv.1
  rw [h1]
  exact hK v w' he (frz_ok h2.hp hv.2.1 hl _ v h3)

/-! ### a region in the order of its text -/

noncomputable def aw (P : Program) (Φ : FuncId → List AV → CtR) (all : Array Oper) : List Oper → List (Nat × AV) → List (Nat × AObj) → (List (Nat × AV) → List (Nat × AObj) → Prop) → Prop
  | [], env, M, K => K env M
  | o :: rest, env, M, K =>
    (match o.guard with
    | none => (evOp P Φ o (rd env) M).vc ∧ aw P Φ all rest (wr o.dst (evOp P Φ o (rd env) M).av (killEs (evOp P Φ o (rd env) M).ks env)) (evOp P Φ o (rd env) M).M K
    | some (j, want) => (match (all[j]?).bind (·.dst) with
      | some dj => gok (gt env dj) ∧ (gc (gt env dj) want → vcF o (evOp P Φ o (rd env) M) M) ∧ aw P Φ all rest (wr o.dst (.gd (gc (gt env dj) want) (avF (evOp P Φ o (rd env) M) M)) env) M K
      | none => False))

theorem aw_ok (hΦ : Good P Φ) (all : Array Oper) (Q : Exit → Act → World → Prop) (K : List (Nat × AV) → List (Nat × AObj) → Prop) (hQ : ∀ p env M a w, St F p env M a w → K env M → Q .normal a w) :
    ∀ (ops : List Oper) (p : Pl) (env : List (Nat × AV)) (M : List (Nat × AObj)) (a : Act) (w : World), (∀ o ∈ ops, ∀ k, o.dst = some k → F.ok k) → St F p env M a w → aw P Φ all ops env M K → wpList P all Q ops a w
  | [], p, env, M, a, w, _, h, hk => hQ p env M a w h hk
  | o :: rest, p, env, M, a, w, hd, h, hk => by
    have hdo := hd o (by simp)
    have hdr : ∀ o' ∈ rest, ∀ k, o'.dst = some k → F.ok k := fun o' ho' => hd o' (by simp [ho'])
    unfold wpList
    simp only [aw] at hk
    cases hg : o.guard with
    | none =>
      rw [hg] at hk
      rw [if_pos (by simp [Region.wanted, hg])]
      refine .inl (Oper.wp_mono (fun a' w' ⟨q, v, h1, h2, h3, _⟩ => ?_) (evOp_ok hΦ h o hk.1 Q))
      rw [h1]
      exact aw_ok hΦ all Q K hQ rest q _ _ _ w' hdr (h2.wrO _ v h3 hdo) hk.2
    | some g =>
      obtain ⟨j, want⟩ := g
      rw [hg] at hk
      simp only at hk
      cases hdj : (all[j]?).bind (·.dst) with
      | none => rw [hdj] at hk; exact hk.elim
      | some dj =>
        rw [hdj] at hk
        obtain ⟨k1, k2, k3⟩ := hk
        have hy := gc_ok _ _ want k1 (h.slots dj)
        have hw : Region.wanted o (yielded all a.tmps) = (yB (a.tmps.getD dj undef) == some want) := by simp only [Region.wanted, hg, yielded_eq hdj]
        rw [hw]
        by_cases hc : gc (gt env dj) want
        · rw [if_pos (hy.2 hc)]
          refine .inl (evOp_frz hΦ h o (k2 hc) _ Q fun v w' he hr => ?_)
          exact aw_ok hΦ all Q K hQ rest p _ _ _ w' hdr ((h.ext he).wrO _ v (by simp only [RelV]; exact ⟨fun _ => hr, fun hn => absurd hc hn⟩) hdo) k3
        · rw [if_neg (fun hh => hc (hy.1 hh))]
          exact aw_ok hΦ all Q K hQ rest p _ _ _ w hdr (h.wrO _ undef (by simp only [RelV]; exact ⟨fun hn => absurd hn hc, fun _ => trivial⟩) hdo) k3

end
end Go.Am

/- The abstract machine: code, loops, contracts. -/
namespace Go.Am
open Go.RowKit

abbrev Env := List (Nat × AV)
abbrev Mem := List (Nat × AObj)

def lift (F : Fr) (Q : Exit → Env → Mem → Prop) : Exit → Act → World → Prop
  | .normal, a, w => ∃ p env M, St F p env M a w ∧ Q .normal env M
  | .exit id, a, w => ∃ p env M, St F p env M a w ∧ Q (.exit id) env M
  | .ret, a, w => ∃ p env M, St F p env M a w ∧ Q .ret env M
  | _, _, _ => False

def WP (P : Program) (F : Fr) (c : Code) (Q : Exit → Env → Mem → Prop) (env : Env) (M : Mem) : Prop := ∀ p a w, St F p env M a w → c.wp P (lift F Q) a w

def thenQ (next : Env → Mem → Prop) (Q : Exit → Env → Mem → Prop) : Exit → Env → Mem → Prop
  | .normal, env, M => next env M
  | e, env, M => Q e env M

def blockQ (id : Nat) (Q : Exit → Env → Mem → Prop) : Exit → Env → Mem → Prop
  | .exit id', env, M => (match Nat.beq id' id with | true => Q .normal env M | false => Q (.exit id') env M)
  | e, env, M => Q e env M

/-- Slots forgotten. -/
def wkE (env : Env) : Env → Prop
  | [] => True
  | (t, v) :: r => gt env t = v ∧ wkE env r
def oLe : Option AObj → AObj → Prop
  | some o, o' => ObjLe o o'
  | none, _ => False
def wkM (M : Mem) : Mem → Prop
  | [] => True
  | (k, o) :: r => oLe (go M k) o ∧ wkM M r

theorem wkE_gt {env : Env} : {env' : Env} → wkE env env' → ∀ t, gt env' t = .any ∨ gt env' t = gt env t
  | [], _, t => .inl rfl
  | (k, v) :: r, h, t => by
    simp only [gt]
    split
    · rename_i e; subst e; exact .inr h.1.symm
    · exact wkE_gt h.2 t
theorem wkM_go {M : Mem} : {M' : Mem} → wkM M M' → ∀ k o', go M' k = some o' → ∃ o, go M k = some o ∧ ObjLe o o'
  | [], _, k, o', h => by cases h
  | (j, o) :: r, h, k, o', hk => by
    simp only [go] at hk
    split at hk
    · rename_i e
      subst e
      cases hk
      have h1 := h.1
      cases hg : go M j with
      | none => rw [hg] at h1; exact h1.elim
      | some o2 => rw [hg] at h1; exact ⟨o2, rfl, h1⟩
    · exact wkM_go h.2 k o' hk

section
variable {P : Program} {F : Fr} {Q : Exit → Env → Mem → Prop} {env : Env} {M : Mem}

theorem WP.weak {c : Code} {env' : Env} {M' : Mem} (h : WP P F c Q env' M') (he : wkE env env') (hM : wkM M M') : WP P F c Q env M :=
  fun p a w hs => h p a w ((hs.weak (wkE_gt he)).objs' (wkM_go hM))

theorem lift_mono {Q' : Exit → Env → Mem → Prop} (h : ∀ e env M, Q e env M → Q' e env M) : ∀ e a w, lift F Q e a w → lift F Q' e a w
  | .normal, _, _, ⟨p, env, M, h1, h2⟩ => ⟨p, env, M, h1, h _ _ _ h2⟩
  | .exit _, _, _, ⟨p, env, M, h1, h2⟩ => ⟨p, env, M, h1, h _ _ _ h2⟩
  | .ret, _, _, ⟨p, env, M, h1, h2⟩ => ⟨p, env, M, h1, h _ _ _ h2⟩
  | .goto _, _, _, h => h.elim
  | .panic _, _, _, h => h.elim
  | .outgrown, _, _, h => h.elim

theorem WP.mono {c : Code} {Q' : Exit → Env → Mem → Prop} (h : WP P F c Q env M) (hq : ∀ e env M, Q e env M → Q' e env M) : WP P F c Q' env M :=
  fun p a w hs => Code.wp_mono (lift_mono hq) (h p a w hs)

theorem WP.skip (h : Q .normal env M) : WP P F .skip Q env M := fun p _ _ hs => wp_skip ⟨p, env, M, hs, h⟩
theorem WP.ret (h : Q .ret env M) : WP P F .ret Q env M := fun p _ _ hs => wp_ret ⟨p, env, M, hs, h⟩
theorem WP.exit {id : Nat} (h : Q (.exit id) env M) : WP P F (.exit id) Q env M := fun p _ _ hs => wp_exit ⟨p, env, M, hs, h⟩

theorem WP.seq {x y : Code} (h : WP P F x (thenQ (fun env M => WP P F y Q env M) Q) env M) : WP P F (.seq x y) Q env M := fun p a w hs => by
  refine wp_seq (Code.wp_mono (fun e a' w' he => ?_) (h p a w hs))
  cases e with
  | normal =>
    obtain ⟨p', env', M', h1, h2⟩ := he
    exact h2 p' a' w' h1
  | exit id => exact he
  | ret => exact he
  | goto l => exact he.elim
  | panic c => exact he.elim
  | outgrown => exact he.elim

theorem WP.block {id : Nat} {c : Code} (h : WP P F c (blockQ id Q) env M) : WP P F (.block id c) Q env M := fun p a w hs => by
  refine wp_block (Code.wp_mono (fun e a' w' he => ?_) (h p a w hs))
  cases e with
  | normal => exact he
  | exit id' =>
    obtain ⟨p', env', M', h1, h2⟩ := he
    simp only [blockQ] at h2
    simp only [Exit.inBlock]
    split at h2
    · rename_i e; rw [if_pos (Nat.eq_of_beq_eq_true e)]; exact ⟨p', env', M', h1, h2⟩
    · rename_i e; rw [if_neg (Nat.ne_of_beq_eq_false e)]; exact ⟨p', env', M', h1, h2⟩
  | ret => exact he
  | goto l => exact he.elim
  | panic c => exact he.elim
  | outgrown => exact he.elim

theorem WP.cond {t : Nat} {x y : Code} (hok : (gt env t).okBool) (h1 : (gt env t).boolV = true → WP P F x Q env M) (h2 : (gt env t).boolV = false → WP P F y Q env M) : WP P F (.cond (.tmp t) x y) Q env M := fun p a w hs => by
  have hb := boolV_ok _ _ hok (hs.slots t)
  exact wp_cond_split (t := (gt env t).boolV) hb (fun e => h1 e p a w hs) (fun e => h2 e p a w hs)

/-- all slots written are slots -/
def dstOk (np nt : Nat) (ops : List Oper) : Bool := ops.all fun o => match o.dst with | some k => Nat.ble np k && Nat.blt k nt | none => true
theorem dstOk_spec {F : Fr} {np nt : Nat} {ops : List Oper} (hn : F.nt = nt ∧ F.np = np) (h : dstOk np nt ops = true) : ∀ o ∈ ops, ∀ k, o.dst = some k → F.ok k := fun o ho k hk => by
  have := List.all_eq_true.1 h o ho
  rw [hk] at this
  simp only [Bool.and_eq_true] at this
  exact ⟨by rw [hn.2]; exact Nat.le_of_ble_eq_true this.1, by rw [hn.1]; exact Nat.le_of_ble_eq_true this.2⟩

theorem WP.region {id : Nat} {l : List Oper} {Φ : FuncId → List AV → CtR} (hΦ : Good P Φ) {np nt : Nat} (hnt : F.nt = nt ∧ F.np = np) (hd : dstOk np nt l = true) (h : ∀ K : Env → Mem → Prop, (∀ env M, Q .normal env M → K env M) → aw P Φ l.toArray l env M K) :
    WP P F (.region id l.toArray false) Q env M := fun p a w hs =>
  wp_region_lit (aw_ok hΦ l.toArray _ _ (fun p env M a w h1 h2 => ⟨p, env, M, h1, h2⟩) l p env M a w (dstOk_spec hnt hd) hs (h _ (fun _ _ h => h)))

theorem wp_loop_ghost {c : Code} {Q' : Exit → Act → World → Prop} {ι : Type} (I : ι → Act → World → Prop) (μ : ι → Nat)
    (round : ∀ i a w, I i a w → c.wp P (Exit.then (fun a' w' => ∃ i', μ i' < μ i ∧ I i' a' w') Q') a w) : ∀ i a w, I i a w → (Code.loop c).wp P Q' a w := by
  intro i a w h0 b k cs
  have key : ∀ n i a w, μ i = n → I i a w → ∃ e a' w', Q' e a' w' ∧ Arrives P (lone (b.at a (.code c :: .inLoop c :: k)) cs w) b k cs e a' w' := by
    intro n
    induction n using Nat.strongRecOn with
    | _ n ih =>
      intro i a w hn hI
      obtain ⟨e, a1, w1, hq, harr⟩ := round i a w hI b (.inLoop c :: k) cs
      cases e with
      | normal =>
        obtain ⟨i', hlt, hI'⟩ := hq
        obtain ⟨e2, a2, w2, hq2, harr2⟩ := ih (μ i') (hn ▸ hlt) i' a1 w1 rfl hI'
        exact ⟨e2, a2, w2, hq2, .of_steps (Steps.trans harr (.one step_inLoop)) harr2⟩
      | exit id => exact ⟨_, a1, w1, hq, .pass (x := .inLoop c) rfl (fun _ _ => .inl (by simp)) harr⟩
      | goto l => exact ⟨_, a1, w1, hq, .pass (x := .inLoop c) rfl (fun _ _ => .inl (by simp)) harr⟩
      | ret => exact ⟨_, a1, w1, hq, .pass (x := .inLoop c) rfl (fun _ _ => .inl (by simp)) harr⟩
      | panic ch => exact ⟨_, a1, w1, hq, .pass (x := .inLoop c) rfl (fun _ _ => .inl (by simp)) harr⟩
      | outgrown => exact ⟨_, a1, w1, hq, .pass (x := .inLoop c) rfl (fun _ _ => .inl (by simp)) harr⟩
  obtain ⟨e, a', w', hq, harr⟩ := key _ i a w rfl h0
  exact ⟨e, a', w', hq, .of_steps (.one step_loop) harr⟩

theorem WP.loop {c : Code} {ι : Type} (R : ι → Prop) (E : ι → Env) (O : ι → Mem) (μ : ι → Nat) (h0 : ∃ i, R i ∧ wkE env (E i) ∧ wkM M (O i))
    (h : ∀ i, R i → WP P F c (thenQ (fun env M => ∃ i', R i' ∧ μ i' < μ i ∧ wkE env (E i') ∧ wkM M (O i')) Q) (E i) (O i)) : WP P F (.loop c) Q env M := fun p a w hs => by
  obtain ⟨i0, r0, e0, m0⟩ := h0
  refine wp_loop_ghost (fun i a w => ∃ p, R i ∧ St F p (E i) (O i) a w) μ (fun i a w ⟨p, hR, hst⟩ => ?_) i0 a w ⟨p, r0, (hs.weak (wkE_gt e0)).objs' (wkM_go m0)⟩
  refine Code.wp_mono (fun e a' w' he => ?_) (h i hR p a w hst)
  cases e with
  | normal =>
    obtain ⟨p', env', M', h1, i', r', hlt, e', m'⟩ := he
    exact ⟨i', hlt, p', r', (h1.weak (wkE_gt e')).objs' (wkM_go m')⟩
  | exit id => exact he
  | ret => exact he
  | goto l => exact he.elim
  | panic c => exact he.elim
  | outgrown => exact he.elim

end

/-! ### contracts -/

def resV (P : Program) (env : Env) (M : Mem) : ResultVar → Prop × AV
  | .tmp t => (True, gt env t)
  | .cell t ty' => ok1 (ty P ty').ok (u1 (evLoad (ty P ty') M) (gt env t))

def resVs (P : Program) (env : Env) (M : Mem) : List ResultVar → Prop × List AV
  | [] => (True, [])
  | r :: rs => ((resV P env M r).1 ∧ (resVs P env M rs).1, (resV P env M r).2 :: (resVs P env M rs).2)

def oneOrTup : List AV → AV
  | [x] => x
  | l => .tup l

mutual
def AV.fl : AV → Bool
  | .any => true
  | .d x => x.flat
  | .own _ => true
  | .box _ _ => true
  | .elt _ _ _ _ => true
  | .agg l => AV.flL l
  | .tup l => AV.flL l
  | .gd _ v => v.fl
  | .fn _ l => AV.flL l
def AV.flL : List AV → Bool
  | [] => true
  | x :: r => x.fl && AV.flL r
end

mutual
def AV.ids : AV → List Nat
  | .any => []
  | .d _ => []
  | .own k => [k]
  | .box k _ => [k]
  | .elt k _ _ _ => [k]
  | .agg l => AV.idsL l
  | .tup l => AV.idsL l
  | .gd _ v => v.ids
  | .fn _ l => AV.idsL l
def AV.idsL : List AV → List Nat
  | [] => []
  | x :: r => x.ids ++ AV.idsL r
end
mutual
theorem AV.mem_ids (k : Nat) : (x : AV) → x.has k = true → k ∈ x.ids
  | .any, h => by simp [AV.has] at h
  | .d x, h => by simp [AV.has] at h
  | .own i, h => by simp [AV.has] at h; simp [AV.ids, h]
  | .box i o, h => by simp [AV.has] at h; simp [AV.ids, h]
  | .elt i s q c, h => by simp [AV.has] at h; simp [AV.ids, h]
  | .agg l, h => by simp only [AV.has] at h; simp only [AV.ids]; exact AV.mem_idsL k l h
  | .tup l, h => by simp only [AV.has] at h; simp only [AV.ids]; exact AV.mem_idsL k l h
  | .gd p v, h => by simp only [AV.has] at h; simp only [AV.ids]; exact AV.mem_ids k v h
  | .fn f l, h => by simp only [AV.has] at h; simp only [AV.ids]; exact AV.mem_idsL k l h
theorem AV.mem_idsL (k : Nat) : (l : List AV) → AV.hasL k l = true → k ∈ AV.idsL l
  | [], h => by simp [AV.hasL] at h
  | x :: r, h => by
    simp only [AV.hasL, Bool.or_eq_true] at h
    simp only [AV.idsL, List.mem_append]
    exact h.imp (AV.mem_ids k x) (AV.mem_idsL k r)
end
def AObj.ids : AObj → List Nat
  | .arr .. => []
  | .cells _ l => AV.idsL l

def AObj.fl : AObj → Bool
  | .arr fr _ _ _ _ => fr
  | .cells _ l => AV.flL l

/-- the objects of a contract, where they lie -/
def objsAt (M : Mem) (g : Nat → Nat) (ks : List Nat) : Mem → Prop
  | [] => True
  | (j, o) :: r => oLe (go M (g j)) (o.ren ks g) ∧ objsAt M g ks r

/-- what must hold at the end -/
def RetQ (P : Program) (rs : List ResultVar) (sh : Bool) (res : AV) (objs : Mem) : Exit → Env → Mem → Prop := fun e env M =>
  (e = .normal ∨ e = .ret) ∧ (resVs P env M rs).1 ∧ ∃ g : Nat → Nat, oneOrTup (resVs P env M rs).2 = res.ren (keysM objs) g ∧ ((keysM objs).map g).Nodup ∧ objsAt M g (keysM objs) objs ∧
    (sh = false → res.fl = true ∧ ∀ q ∈ objs, q.2.fl = true) ∧ (∀ k ∈ res.ids, k ∈ keysM objs) ∧ ∀ q ∈ objs, ∀ k ∈ q.2.ids, k ∈ keysM objs

theorem go_keys {M : Mem} {k : Nat} : k ∈ keysM M → ∃ o, go M k = some o := fun h => by
  have := live_keys.2 h
  unfold Live at this
  exact Option.isSome_iff_exists.1 this

theorem objsAt_go {M : Mem} {g : Nat → Nat} {ks : List Nat} : {objs : Mem} → objsAt M g ks objs → ∀ j o, go objs j = some o → ∃ o', go M (g j) = some o' ∧ ObjLe o' (o.ren ks g)
  | [], _, j, o, h => by cases h
  | (i, o1) :: r, h, j, o, hj => by
    simp only [go] at hj
    split at hj
    · rename_i e
      subst e
      cases hj
      have h1 := h.1
      cases hg : go M (g i) with
      | none => rw [hg] at h1; exact h1.elim
      | some o2 => rw [hg] at h1; exact ⟨o2, rfl, h1⟩
    · exact objsAt_go h.2 j o hj

mutual
theorem RelV.unren {β β' : Nat → Value} {Im Im' : Nat → Prop} {w : World} {ks : List Nat} {g : Nat → Nat} (hg : ∀ k, k ∈ ks → β (g k) = β' k) : (x : AV) → ((∀ b, Im b → Im' b) ∨ x.fl = true) → (∀ k, x.has k = true → k ∈ ks) → (v : Value) → RelV β Im w (x.ren ks g) v → RelV β' Im' w x v
  | .any, _, _, v, r => by simp only [RelV]
  | .d x, h, _, v, r => by
    simp only [AV.ren, RelV] at r ⊢
    rcases h with h | h
    · exact RelD.keep (fun b hb => ⟨h b hb, rfl⟩) x v r
    · exact flat_rel (by simpa only [AV.fl] using h) r
  | .own j, _, hk, v, r => by
    have := hk j (by simp [AV.has])
    simp only [AV.ren, if_pos this, RelV] at r ⊢
    rw [← hg j this]; exact r
  | .box j o, _, hk, v, r => by
    have := hk j (by simp [AV.has])
    simp only [AV.ren, if_pos this, RelV] at r ⊢
    rw [← hg j this]; exact r
  | .elt j s i c, _, hk, v, r => by
    have := hk j (by simp [AV.has])
    simp only [AV.ren, if_pos this, RelV] at r ⊢
    rw [← hg j this]; exact r
  | .agg l, h, hk, v, r => by
    simp only [AV.ren, RelV] at r ⊢
    obtain ⟨vs, hv, hl⟩ := r
    exact ⟨vs, hv, RelL.unren hg l (h.imp id (by simp only [AV.fl]; exact id)) (fun k hh => hk k (by simpa only [AV.has] using hh)) vs hl⟩
  | .tup l, h, hk, v, r => by
    simp only [AV.ren, RelV] at r ⊢
    obtain ⟨vs, hv, hl⟩ := r
    exact ⟨vs, hv, RelL.unren hg l (h.imp id (by simp only [AV.fl]; exact id)) (fun k hh => hk k (by simpa only [AV.has] using hh)) vs hl⟩
  | .gd p x, h, hk, v, r => by
    simp only [AV.ren, RelV] at r ⊢
    exact ⟨fun hp => RelV.unren hg x (h.imp id (by simp only [AV.fl]; exact id)) (fun k hh => hk k (by simpa only [AV.has] using hh)) v (r.1 hp), r.2⟩
  | .fn f l, h, hk, v, r => by
    simp only [AV.ren, RelV] at r ⊢
    obtain ⟨vs, hv, hl⟩ := r
    exact ⟨vs, hv, RelL.unren hg l (h.imp id (by simp only [AV.fl]; exact id)) (fun k hh => hk k (by simpa only [AV.has] using hh)) vs hl⟩
theorem RelL.unren {β β' : Nat → Value} {Im Im' : Nat → Prop} {w : World} {ks : List Nat} {g : Nat → Nat} (hg : ∀ k, k ∈ ks → β (g k) = β' k) : (l : List AV) → ((∀ b, Im b → Im' b) ∨ AV.flL l = true) → (∀ k, AV.hasL k l = true → k ∈ ks) → (vs : List Value) → RelL β Im w (AV.renL ks g l) vs → RelL β' Im' w l vs
  | [], _, _, vs, r => by simpa only [AV.renL, RelL] using r
  | x :: l, h, hk, vs, r => by
    simp only [AV.renL, RelL] at r ⊢
    obtain ⟨u, us, hv, hx, hr⟩ := r
    exact ⟨u, us, hv, RelV.unren hg x (h.imp id (by simp only [AV.flL, Bool.and_eq_true]; exact fun h => h.1)) (fun k hh => hk k (by simp [AV.hasL, hh])) u hx,
      RelL.unren hg l (h.imp id (by simp only [AV.flL, Bool.and_eq_true]; exact fun h => h.2)) (fun k hh => hk k (by simp [AV.hasL, hh])) us hr⟩
end

end Go.Am

/- The abstract machine: a contract out of a walk. -/
namespace Go.Am
open Go.RowKit

def idxE : Nat → List AV → Env
  | _, [] => []
  | i, x :: r => (i, x) :: idxE (i + 1) r

section
variable {P : Program} {F : Fr} {p : Pl} {env : Env} {M : Mem} {a : Act} {w : World}

theorem idxE_gt : ∀ (l : List AV) (i t : Nat), gt (idxE i l) t = if i ≤ t then (l[t - i]?).getD .any else .any
  | [], i, t => by simp [idxE, gt]
  | x :: r, i, t => by
    simp only [idxE, gt]
    by_cases h : i = t
    · subst h; simp
    · rw [if_neg h, idxE_gt r (i + 1) t]
      by_cases h1 : i + 1 ≤ t
      · rw [if_pos h1, if_pos (by omega), show t - i = (t - (i + 1)) + 1 by omega]; simp
      · rw [if_neg h1, if_neg (by omega)]

theorem load_as {t : TypeId} {u r : Value} (h : (Instr.loadAt t u).run P w = .ok r w) : (do loadVar t (← asAddr u) : Sem Value).run P w = .ok r w := by
  cases u <;> simp [Instr.loadAt, Instr.sureAddr] at h
  case pointer o =>
    cases o with
    | none => simp at h
    | some ad => simpa [asAddr] using h

/-- one result -/
def resM (tmps : Array Value) : ResultVar → Sem Value
  | .tmp t => pure (tmps.getD t undef)
  | .cell t ty' => do loadVar ty' (← asAddr (tmps.getD t undef))

theorem results_eq (fn : Func) (tmps : Array Value) : results fn tmps = (do let vs ← fn.results.mapM (resM tmps); pure (if h : vs.size = 1 then vs[0] else .tuple vs) : Sem Value) := by
  unfold results
  congr

theorem resV_ok (h : St F p env M a w) (rv : ResultVar) (hv : (resV P env M rv).1) :
    ∃ r, (resM a.tmps rv).run P w = .ok r w ∧ RelV p.β (Imm F p M w) w (resV P env M rv).2 r := by
  cases rv with
  | tmp t => exact ⟨_, by simp [resM], h.slots t⟩
  | cell t ty' =>
    simp only [resV, ok1, u1] at hv ⊢
    obtain ⟨r, h1, h2⟩ := evLoad_ok h.hp _ _ hv.1 (RelV.strip _ _ hv.2.1 (h.slots t)) hv.2.2
    exact ⟨r, load_as h1, h2⟩

theorem resVs_ok (h : St F p env M a w) : (rs : List ResultVar) → (resVs P env M rs).1 →
    ∃ vs : List Value, (rs.mapM (resM a.tmps)).run P w = .ok vs w ∧ RelL p.β (Imm F p M w) w (resVs P env M rs).2 vs
  | [], _ => ⟨[], rfl, by simp [resVs, RelL]⟩
  | rv :: rs, hv => by
    simp only [resVs] at hv
    obtain ⟨r, h1, h2⟩ := resV_ok h rv hv.1
    obtain ⟨vs, h3, h4⟩ := resVs_ok h rs hv.2
    refine ⟨r :: vs, ?_, by simp only [resVs, RelL]; exact ⟨r, vs, rfl, h2, h4⟩⟩
    simp only [List.mapM_cons, Sem.run_bind, h1, Result.andThen_ok, h3, Sem.run_pure]

theorem results_ok (h : St F p env M a w) {fn : Func} (hv : (resVs P env M fn.results.toList).1) :
    ∃ v, (results fn a.tmps).run P w = .ok v w ∧ RelV p.β (Imm F p M w) w (oneOrTup (resVs P env M fn.results.toList).2) v := by
  obtain ⟨vs, h1, h2⟩ := resVs_ok h fn.results.toList hv
  have hlen := RelL.len _ _ h2
  have hrun : (results fn a.tmps).run P w = .ok (if hs : vs.toArray.size = 1 then vs.toArray[0] else .tuple vs.toArray) w := by
    rw [results_eq, Array.mapM_eq_mapM_toList]
    simp only [Sem.run_bind, Sem.run_map, h1, Result.andThen_ok, Sem.run_pure]
  refine ⟨_, hrun, ?_⟩
  generalize (resVs P env M fn.results.toList).2 = l at h2 hlen
  match l, vs, h2, hlen with
  | [], vs, h2, hlen =>
    simp only [RelL] at h2
    subst h2
    simp only [oneOrTup, RelV]
    exact ⟨[], by simp, by simp only [RelL]⟩
  | [x], vs, h2, hlen =>
    simp only [RelL] at h2
    obtain ⟨u, us, rfl, hu, rfl⟩ := h2
    simpa [oneOrTup] using hu
  | x :: y :: l, vs, h2, hlen =>
    have : ¬ (vs.toArray.size = 1) := by simp at hlen ⊢; omega
    rw [dif_neg this]
    simp only [oneOrTup, RelV]
    exact ⟨vs, rfl, h2⟩

theorem nodup_inj {g : Nat → Nat} : (l : List Nat) → (l.map g).Nodup → ∀ i j, i ∈ l → j ∈ l → i ≠ j → g i ≠ g j
  | [], _, i, j, hi, _, _ => by cases hi
  | x :: r, h, i, j, hi, hj, hne => by
    simp only [List.map_cons, List.nodup_cons] at h
    rcases List.mem_cons.1 hi with rfl | hi
    · rcases List.mem_cons.1 hj with rfl | hj
      · exact absurd rfl hne
      · exact fun e => h.1 (e ▸ List.mem_map_of_mem hj)
    · rcases List.mem_cons.1 hj with hj' | hj
      · rw [hj']; exact fun e => h.1 (e ▸ List.mem_map_of_mem hi)
      · exact nodup_inj r h.2 i j hi hj hne

theorem RelO.unren {β β' : Nat → Value} {ρ Im Im' : Nat → Prop} {ks : List Nat} {g : Nat → Nat} (hg : ∀ k, k ∈ ks → β (g k) = β' k) (o : AObj) (h : (∀ b, Im b → Im' b) ∨ o.fl = true) (hk : ∀ k, k ∈ o.ids → k ∈ ks) (v : Value) (r : RelO β ρ Im w (o.ren ks g) v) : RelO β' ρ Im' w o v := by
  match o, r, h, hk with
  | .arr true e sz n f, r, _, _ => simpa only [AObj.ren, RelO] using r
  | .arr false e sz n f, r, h, _ =>
    rcases h with h | h
    · simp only [AObj.ren, RelO] at r ⊢
      obtain ⟨xs, h1, h2, h3⟩ := r
      exact ⟨xs, h1, h2, fun i hi => RelDs.keep (fun b hb => ⟨h b hb, rfl⟩) _ _ (h3 i hi)⟩
    · cases h
  | .cells ty l, r, h, hk =>
    simp only [AObj.ren, RelO] at r ⊢
    obtain ⟨b, vs, hv, hb, hl⟩ := r
    exact ⟨b, vs, hv, hb, RelL.unren hg l (h.imp id (by simp only [AObj.fl]; exact id)) (fun k hh => hk k (AV.mem_idsL k l hh)) _ hl⟩

theorem go_mem {j : Nat} {o : AObj} : {objs : Mem} → go objs j = some o → ∃ q ∈ objs, q.2 = o
  | [], h => by cases h
  | (i, o1) :: r, h => by
    simp only [go] at h
    split at h
    · cases h; exact ⟨(i, o), by simp, rfl⟩
    · obtain ⟨q, h1, h2⟩ := go_mem h; exact ⟨q, by simp [h1], h2⟩

theorem spec_of {f : FuncId} {fn : Func} {c : Code} (hf : P.funcs[f]? = some fn) (hb : fn.body = some c) (hn : (fn.name == "runtime.NumGoroutine") = false) (args : List AV) (hrefs : AV.refsL args = false) (nt : Nat) (hnt : fn.ntmps = nt) (hlen : args.length ≤ nt)
    (rs : List ResultVar) (hrs : fn.results.toList = rs) (sh : Bool) (res : AV) (objs : Mem)
    (h : ∀ F : Fr, F.nt = nt ∧ F.np = 0 → WP P F c (RetQ P rs sh res objs) (idxE 0 args) []) : Spec P f args sh res objs := by
  refine ⟨callable_of hf hb hn, fun A w β vs hA hrel => ?_⟩
  let F : Fr := ⟨w, A, fun _ => False, nt, 0, fun _ => undef⟩
  let p0 : Pl := ⟨fun _ => undef, fun _ _ => False⟩
  have hvl := RelL.len _ _ hrel
  have himm : ∀ b, A b → Imm F p0 [] w b := fun b hb => ⟨hA b hb, .inl hb, fun k hk => by simp [Live, go] at hk⟩
  have hrel' : RelL p0.β (Imm F p0 [] w) w args vs := RelL.keep_same (fun b hb => ⟨himm b hb, rfl⟩) _ _ (noRefs_relL args vs hrefs hrel)
  have hst : St F p0 (idxE 0 args) [] { tmps := vs.toArray ++ Array.replicate (fn.ntmps - vs.toArray.size) undef, defers := [] } w := by
    refine ⟨rfl, ⟨by simp [F]; omega, fun t ht => by simp [F] at ht⟩, fun t => ?_, ⟨fun k o hk => by simp [go] at hk, fun k k' b _ hk => by simp [Live, go] at hk, fun k b hk => by simp [Live, go] at hk, fun k b hk => by simp [Live, go] at hk, fun k k' b _ hk => by simp [Live, go] at hk, rfl, rfl, rfl, Nat.le_refl _, fun b _ _ => rfl⟩⟩
    rw [idxE_gt]
    simp only [Nat.zero_le, if_true, Nat.sub_zero]
    cases hx : args[t]? with
    | none => simp only [Option.getD_none, RelV]
    | some x =>
      obtain ⟨u, hu1, hu2⟩ := RelL.get args vs hrel' t x hx
      simp only [Option.getD_some]
      have : (vs.toArray ++ Array.replicate (fn.ntmps - vs.toArray.size) undef).getD t undef = u := by
        rw [Array.getD_eq_getD_getElem?, Array.getElem?_append_left (by
          have := (List.getElem?_eq_some_iff.1 hu1).1
          simpa using this)]
        simp [hu1]
      rw [this]; exact hu2
  refine calls_of_wp hf hb (Code.wp_mono (fun e a' w' he => ?_) (h F ⟨rfl, rfl⟩ p0 _ w hst))
  have key : ∀ p env M, St F p env M a' w' → RetQ P rs sh res objs e env M → (e = .normal ∨ e = .ret) → bodyPost P fn (fun e w' => ∃ v p', e = .returned v ∧ RelV p'.β (Imm (fr0 sh A w) p' objs w') w' res v ∧ Hp (fr0 sh A w) p' objs w') e a' w' := by
    intro p env M hs ⟨_, q1, g, q2, q3, q4, q5, q6, q7⟩ hee
    rw [← hrs] at q1 q2
    obtain ⟨v, hrun, hv⟩ := results_ok hs q1
    rw [q2] at hv
    have hlive : ∀ j, j ∈ keysM objs → Live M (g j) := fun j hj => by
      obtain ⟨o, ho⟩ := go_keys hj
      obtain ⟨o', ho', _⟩ := objsAt_go q4 j o ho
      exact go_live ho'
    have hinj : ∀ i j, i ∈ keysM objs → j ∈ keysM objs → i ≠ j → g i ≠ g j := nodup_inj _ q3
    let p' : Pl := ⟨fun j => p.β (g j), fun j => p.ρ (g j)⟩
    have hfresh : ∀ k b, Live M k → root (p.β k) = some b → w.heap.size ≤ b := fun k b hk hr => ((hs.hp.own k b hk hr).2).elim (fun h => h.2.elim) id
    have hI : (∀ b, Imm F p M w' b → Imm (fr0 sh A w) p' objs w' b) ∨ (res.fl = true ∧ ∀ q ∈ objs, q.2.fl = true) := by
      cases sh with
      | false => exact .inr (q5 rfl)
      | true =>
        left
        intro b hb
        refine ⟨hb.1, ?_, fun j hj => hb.2.2 (g j) (hlive j (live_keys.1 hj))⟩
        rcases hb.2.1 with h1 | h1 | h1
        · exact .inl ⟨rfl, h1⟩
        · exact h1.elim
        · exact .inr (.inr h1)
    have hpost : ∃ v' p', Ending.returned v = .returned v' ∧ RelV p'.β (Imm (fr0 sh A w) p' objs w') w' res v' ∧ Hp (fr0 sh A w) p' objs w' := by
      refine ⟨v, p', rfl, RelV.unren (β := p.β) (β' := p'.β) (g := g) (fun k _ => rfl) res (hI.imp id (fun h => h.1)) (fun k hk => q6 k (AV.mem_ids k res hk)) v hv, ⟨fun j o hj => ?_, fun j j' b hne hj hj' => ?_, fun j b hj hr => ?_, fun j b hj hr => ?_, fun j j' b hne hj hj' => ?_,
        hs.hp.os, hs.hp.tape, hs.hp.output, hs.hp.size, fun b hb _ => hs.hp.old b hb (fun h => h)⟩⟩
      · obtain ⟨o', ho', hle⟩ := objsAt_go q4 j o hj
        have hr := hle.rel (fun b hb => (hs.hp.priv (g j) b (go_live ho') hb).1) (hs.hp.objs (g j) o' ho')
        have hmem : ∃ q ∈ objs, q.2 = o := by
          exact go_mem hj
        obtain ⟨q, hq1, hq2⟩ := hmem
        subst hq2
        exact RelO.unren (β := p.β) (β' := p'.β) (g := g) (fun k _ => rfl) q.2 (hI.imp id (fun h => h.2 q hq1)) (fun k hk => q7 q hq1 k hk) _ hr
      · exact hs.hp.sep (g j) (g j') b (hinj j j' (live_keys.1 hj) (live_keys.1 hj') hne) (hlive j (live_keys.1 hj)) (hlive j' (live_keys.1 hj'))
      · exact ⟨(hs.hp.own (g j) b (hlive j (live_keys.1 hj)) hr).1, .inr (hfresh (g j) b (hlive j (live_keys.1 hj)) hr)⟩
      · obtain ⟨h1, h2⟩ := hs.hp.priv (g j) b (hlive j (live_keys.1 hj)) hr
        exact ⟨⟨h1.1, .inr (.inr h2), fun j' hj' => h1.2.2 (g j') (hlive j' (live_keys.1 hj'))⟩, h2⟩
      · exact hs.hp.apart (g j) (g j') b (hinj j j' (live_keys.1 hj) (live_keys.1 hj') hne) (hlive j (live_keys.1 hj)) (hlive j' (live_keys.1 hj'))
    obtain ⟨v', p'', e1, e2, e3⟩ := hpost
    rcases hee with rfl | rfl
    · exact ⟨hs.defers, v, hrun, v', p'', e1, e2, e3⟩
    · exact ⟨hs.defers, v, hrun, v', p'', e1, e2, e3⟩
  cases e with
  | normal => obtain ⟨p, env, M, h1, h2⟩ := he; exact key p env M h1 h2 (.inl rfl)
  | ret => obtain ⟨p, env, M, h1, h2⟩ := he; exact key p env M h1 h2 (.inr rfl)
  | exit id => obtain ⟨p, env, M, h1, h2⟩ := he; rcases h2.1 with h | h <;> cases h
  | goto l => exact he.elim
  | panic ch => exact he.elim
  | outgrown => exact he.elim

end
end Go.Am

/- The abstract machine: regions whose order is left open. -/
namespace Go.Am
open Go.RowKit

section
variable {P : Program} {Φ : FuncId → List AV → CtR}

theorem evOp_congr {ρ ρ' : Operand → AV} {M : Mem} (o : Oper) (h : ∀ x ∈ o.op.operands, ρ x = ρ' x) : evOp P Φ o ρ M = evOp P Φ o ρ' M := by
  obtain ⟨dst, op, ty', pos, after, guard⟩ := o
  have pairs : ∀ ps : Array (Nat × Operand), (∀ x ∈ ps.map (·.2), ρ x = ρ' x) →
      (ps.toList.map fun q => (q.1, (ρ q.2).strip)) = (ps.toList.map fun q => (q.1, (ρ' q.2).strip)) ∧ (ps.toList.map fun q => ρ q.2) = (ps.toList.map fun q => ρ' q.2) := fun ps hp => by
    constructor
    · exact List.map_congr_left fun p hm => by rw [hp p.2 (Array.mem_map.2 ⟨p, Array.mem_toList_iff.1 hm, rfl⟩)]
    · exact List.map_congr_left fun p hm => by rw [hp p.2 (Array.mem_map.2 ⟨p, Array.mem_toList_iff.1 hm, rfl⟩)]
  cases op <;> simp only [Op.operands] at h
  case build t ps => simp only [evOp, (pairs ps fun x hx => h x (by simpa using hx)).1, (pairs ps fun x hx => h x (by simpa using hx)).2]
  case buildSlice t n ps => simp only [evOp, (pairs ps fun x hx => h x (by simpa using hx)).1, (pairs ps fun x hx => h x (by simpa using hx)).2]
  case call c =>
    obtain ⟨callee, args, argTypes⟩ := c
    have ha : ∀ x ∈ args.toList, ρ x = ρ' x := fun x hx => h x (by simp [Call.operands, Array.mem_toList_iff.1 hx])
    have h1 : args.toList.map ρ = args.toList.map ρ' := List.map_congr_left ha
    have h3 : args.toList.map (fun x => (ρ x).strip.refs) = args.toList.map (fun x => (ρ' x).strip.refs) := List.map_congr_left fun x hx => by rw [ha x hx]
    have h2 : ∀ g : AV → AV, args.toList.map (fun x => g (ρ x)) = args.toList.map (fun x => g (ρ' x)) := fun g => List.map_congr_left fun x hx => by rw [ha x hx]
    simp only [evOp, h1]
    split
    · split
      · rename_i x t e1 e2; rw [ha x (by rw [e1]; simp)]
      · rfl
    · split
      · rename_i x y t t' e1 e2; rw [ha x (by rw [e1]; simp), ha y (by rw [e1]; simp)]
      · rfl
    · simp only [h2 fun x => viewA M x.strip, h3]
    · rfl
  all_goals (first | rfl | (simp only [evOp]; simp_all; done))


/-! ### the order of a drawn region -/

/-- Bit i of the j-th mask: operation i is listed ahead of operation j, whatever is drawn. -/
def maskOf (ms : List Nat) (o : Oper) : Nat := o.after.toList.foldl (fun m e => if Region.binds .any e then m ||| (1 <<< e.on) ||| (ms.getD e.on 0) else m) 0
def masks : List Nat → List Oper → List Nat
  | ms, [] => ms
  | ms, o :: r => masks (ms ++ [maskOf ms o]) r

/-- The edges lead back. -/
def backs : Nat → List Oper → Bool
  | _, [] => true
  | j, o :: r => (o.after.toList.all fun e => !Region.binds .any e || Nat.blt e.on j) && backs (j + 1) r

def looks (ops : Array Oper) (o : Oper) : List Nat := o.looksAt ops

def okPair (ops : Array Oper) (ms : List Nat) (i j : Nat) (x y : Oper) : Bool :=
  match x.dst with
  | none => true
  | some t => (match y.dst with | some t' => !(Nat.beq t t') | none => true) && (!((looks ops y).contains t) || (if i < j then (ms.getD j 0).testBit i else (ms.getD i 0).testBit j))

def okDraw (ops : Array Oper) (ms : List Nat) (m : Nat) : Bool :=
  (List.range m).all fun i => (List.range m).all fun j => Nat.beq i j || match ops[i]?, ops[j]? with
    | some x, some y => okPair ops ms i j x y
    | _, _ => true
/-- From m on: one after the other. -/
def okTail (ops : Array Oper) (ms : List Nat) (m : Nat) : Bool :=
  (List.range ops.size).all fun j => Nat.blt j m || (List.range j).all fun i => (ms.getD j 0).testBit i

def isL (listed : Array Bool) (i : Nat) : Prop := listed.getD i false = true

/-- how many are still to come -/
def unl (listed : Array Bool) : Nat → Nat
  | 0 => 0
  | n + 1 => (if listed.getD n false then 0 else 1) + unl listed n

theorem unl_ge (listed : Array Bool) (i : Nat) : ∀ n, n ≤ i → unl (listed.setIfInBounds i true) n = unl listed n
  | 0, _ => rfl
  | n + 1, h => by rw [unl, unl, unl_ge listed i n (by omega), getD_set_ne false (by omega)]

theorem unl_set {listed : Array Bool} {i : Nat} (hi : i < listed.size) (hl : ¬ isL listed i) : ∀ n, i < n → unl (listed.setIfInBounds i true) n + 1 = unl listed n
  | 0, h => by omega
  | n + 1, h => by
    rw [unl, unl]
    by_cases e : i = n
    · subst e
      rw [unl_ge listed i i (Nat.le_refl _)]
      have h1 : (listed.setIfInBounds i true).getD i false = true := by simp [hi]
      have h2 : listed.getD i false = false := by simpa [isL] using hl
      rw [h1, h2]; simp +arith
    · rw [getD_set_ne false e]
      have := unl_set hi hl n (by omega)
      omega

theorem unl_zero {listed : Array Bool} : ∀ {n}, unl listed n = 0 → ∀ i, i < n → isL listed i
  | 0, _, i, h => by omega
  | n + 1, h, i, hi => by
    rw [unl] at h
    by_cases e : i = n
    · subst e
      unfold isL
      cases hb : listed.getD i false with
      | true => rfl
      | false => rw [hb] at h; simp at h
    · exact unl_zero (n := n) (by omega) i (by omega)

section
variable {ops : Array Oper} {listed : Array Bool}

/-- closed under what binds -/
def Down (ops : Array Oper) (listed : Array Bool) : Prop := ∀ (j : Nat) (o : Oper), ops[j]? = some o → isL listed j → ∀ e ∈ o.after, Region.binds .any e = true → isL listed e.on

theorem maskOf_bit (ms : List Nat) (o : Oper) (i : Nat) (h : (maskOf ms o).testBit i = true) : ∃ e ∈ o.after, Region.binds .any e = true ∧ (e.on = i ∨ (ms.getD e.on 0).testBit i = true) := by
  unfold maskOf at h
  have key : ∀ (l : List Edge) (m : Nat), (l.foldl (fun m e => if Region.binds .any e then m ||| (1 <<< e.on) ||| (ms.getD e.on 0) else m) m).testBit i = true → m.testBit i = true ∨ ∃ e ∈ l, Region.binds .any e = true ∧ (e.on = i ∨ (ms.getD e.on 0).testBit i = true) := by
    intro l
    induction l with
    | nil => intro m h; exact .inl h
    | cons e l ih =>
      intro m h
      rw [List.foldl_cons] at h
      rcases ih _ h with h1 | ⟨e', h1, h2⟩
      · split at h1
        · rename_i hb
          simp only [Nat.testBit_or, Bool.or_eq_true] at h1
          rcases h1 with (h1 | h1) | h1
          · exact .inl h1
          · refine .inr ⟨e, by simp, hb, .inl ?_⟩
            rw [Nat.shiftLeft_eq, Nat.one_mul] at h1
            rw [Nat.testBit_two_pow] at h1; exact of_decide_eq_true h1
          · exact .inr ⟨e, by simp, hb, .inr h1⟩
        · exact .inl h1
      · exact .inr ⟨e', by simp [h1], h2⟩
  rcases key _ _ h with h1 | ⟨e, h1, h2⟩
  · simp at h1
  · exact ⟨e, Array.mem_toList_iff.1 h1, h2⟩

theorem masks_get : ∀ (l : List Oper) (ms : List Nat) (pre : List Oper), ms.length = pre.length → (∀ j o, pre[j]? = some o → ∃ ms', ms.getD j 0 = maskOf ms' o ∧ ∀ k, ms'.getD k 0 = ms.getD k 0 ∨ ms'.getD k 0 = 0) →
    ∀ j o, (pre ++ l)[j]? = some o → ∃ ms', (masks ms l).getD j 0 = maskOf ms' o ∧ ∀ k, ms'.getD k 0 = (masks ms l).getD k 0 ∨ ms'.getD k 0 = 0
  | [], ms, pre, _, h, j, o, hj => by simpa [masks] using h j o (by simpa using hj)
  | x :: l, ms, pre, hlen, h, j, o, hj => by
    rw [masks]
    refine masks_get l (ms ++ [maskOf ms x]) (pre ++ [x]) (by simp [hlen]) (fun j o hj => ?_) j o (by simpa using hj)
    by_cases e : j < pre.length
    · rw [List.getElem?_append_left e] at hj
      obtain ⟨ms', h1, h2⟩ := h j o hj
      refine ⟨ms', by rw [← h1]; simp [List.getD_eq_getElem?_getD, List.getElem?_append_left (hlen ▸ e)], fun k => ?_⟩
      rcases h2 k with h3 | h3
      · by_cases e2 : k < ms.length
        · left; rw [h3]; simp [List.getD_eq_getElem?_getD, List.getElem?_append_left e2]
        · right; rw [h3]; simp [List.getD_eq_getElem?_getD, List.getElem?_eq_none (Nat.le_of_not_lt e2)]
      · exact .inr h3
    · have hj' := (List.getElem?_eq_some_iff.1 hj).1
      simp at hj'
      have : j = pre.length := by omega
      subst this
      simp at hj
      subst hj
      refine ⟨ms, by simp [List.getD_eq_getElem?_getD, ← hlen], fun k => ?_⟩
      by_cases e2 : k < ms.length
      · left; simp [List.getD_eq_getElem?_getD, List.getElem?_append_left e2]
      · right; simp [List.getD_eq_getElem?_getD, List.getElem?_eq_none (Nat.le_of_not_lt e2)]

theorem backs_spec : ∀ (l : List Oper) (k : Nat), backs k l = true → ∀ j o, l[j]? = some o → ∀ e ∈ o.after, Region.binds .any e = true → e.on < k + j
  | [], _, _, j, o, h => by simp at h
  | x :: l, k, hb, j, o, h => by
    simp only [backs, Bool.and_eq_true] at hb
    intro e he hbi
    cases j with
    | zero =>
      simp only [List.getElem?_cons_zero, Option.some.injEq] at h
      subst h
      have := List.all_eq_true.1 hb.1 e (Array.mem_toList_iff.2 he)
      simpa [hbi, Nat.blt_eq] using this
    | succ j =>
      simp only [List.getElem?_cons_succ] at h
      have := backs_spec l (k + 1) hb.2 j o h e he hbi
      omega

/-- what the mask of an operation names is listed, where its edges are -/
theorem mask_listed (hd : Down ops listed) (hb : backs 0 ops.toList = true) : ∀ (j : Nat) (o : Oper), ops[j]? = some o → (∀ e ∈ o.after, Region.binds .any e = true → isL listed e.on) → ∀ i, ((masks [] ops.toList).getD j 0).testBit i = true → isL listed i := by
  intro j
  induction j using Nat.strongRecOn with
  | _ j ih =>
    intro o ho hl i hi
    obtain ⟨ms', h1, h2⟩ := masks_get ops.toList [] [] rfl (fun j o h => by simp at h) j o (by simpa using ho)
    rw [h1] at hi
    obtain ⟨e, he, hbi, h3⟩ := maskOf_bit ms' o i hi
    have hle := hl e he hbi
    rcases h3 with h3 | h3
    · rw [← h3]; exact hle
    · have hlt := backs_spec ops.toList 0 hb j o (by simpa using ho) e he hbi
      rcases h2 e.on with h4 | h4
      · rw [h4] at h3
        cases hoe : ops[e.on]? with
        | none =>
          have : ops.size ≤ e.on := by rcases Nat.lt_or_ge e.on ops.size with h | h; · simp [h] at hoe
                                       · exact h
          have := (Array.getElem?_eq_some_iff.1 ho).1
          omega
        | some oe => exact ih e.on (by omega) oe hoe (fun e' he' hb' => hd e.on oe hoe hle e' he' hb') i h3
      · rw [h4] at h3; simp at h3

theorem ready_edges {j : Nat} (h : j ∈ Region.ready .any ops listed) : ∃ o, ops[j]? = some o ∧ listed.getD j true = false ∧ ∀ e ∈ o.after, Region.binds .any e = true → isL listed e.on := by
  obtain ⟨h1, o, h2, h3⟩ := mem_ready.1 h
  exact ⟨o, h2, h1, h3⟩

theorem Down.set (hd : Down ops listed) {j : Nat} (h : j ∈ Region.ready .any ops listed) : Down ops (listed.setIfInBounds j true) := by
  intro k o hk hl e he hb
  obtain ⟨oj, h1, _, h3⟩ := ready_edges h
  refine getD_set_true ?_
  by_cases hkj : k = j
  · subst hkj
    rw [h1] at hk
    cases hk
    exact h3 e he hb
  · refine hd k o hk ?_ e he hb
    unfold isL at hl ⊢
    rwa [getD_set_ne false (Ne.symm hkj)] at hl

/-- Some operation is ready as long as one is not listed. -/
theorem ready_some (hs : listed.size = ops.size) (hb : backs 0 ops.toList = true) (h : Region.ready .any ops listed = []) : ∀ i, i < ops.size → isL listed i := by
  intro i
  induction i using Nat.strongRecOn with
  | _ i ih =>
    intro hi
    cases hl : listed.getD i false with
    | true => exact hl
    | false =>
      have : i ∈ Region.ready .any ops listed := mem_ready.2 ⟨by simp [hs, hi] at hl ⊢; exact hl, ops[i], by simp [hi], fun e he hbi => by
        have := backs_spec ops.toList 0 hb i ops[i] (by simp [hi]) e he hbi
        exact ih e.on (by omega) (by omega)⟩
      rw [h] at this
      cases this

end

end
end Go.Am

/- The abstract machine: a drawn region keeps the law that its text keeps. -/
namespace Go.Am
open Go.RowKit

/-- A drawn part, in the order of its text: nothing but data is kept. -/
noncomputable def adw (P : Program) (Φ : FuncId → List AV → CtR) (all : Array Oper) : List Oper → Env → Mem → (Env → Prop) → Prop
  | [], env, _, K => K env
  | o :: rest, env, M, K =>
    (match o.guard with
    | none => vcF o (evOp P Φ o (rd env) M) M ∧ adw P Φ all rest (wr o.dst (avF (evOp P Φ o (rd env) M) M) env) M K
    | some (j, want) => (match (all[j]?).bind (·.dst) with
      | some dj => gok (gt env dj) ∧ (gc (gt env dj) want → vcF o (evOp P Φ o (rd env) M) M) ∧ adw P Φ all rest (wr o.dst (.gd (gc (gt env dj) want) (avF (evOp P Φ o (rd env) M) M)) env) M K
      | none => False))

/-- one step of it -/
def dstep (P : Program) (Φ : FuncId → List AV → CtR) (all : Array Oper) (o : Oper) (env : Env) (M : Mem) (v : AV) : Prop :=
  match o.guard with
    | none => vcF o (evOp P Φ o (rd env) M) M ∧ v = avF (evOp P Φ o (rd env) M) M
    | some (j, want) => (match (all[j]?).bind (·.dst) with
      | some dj => gok (gt env dj) ∧ (gc (gt env dj) want → vcF o (evOp P Φ o (rd env) M) M) ∧ v = .gd (gc (gt env dj) want) (avF (evOp P Φ o (rd env) M) M)
      | none => False)

section
variable {P : Program} {Φ : FuncId → List AV → CtR} {F : Fr} {p : Pl} {env : Env} {M : Mem} {a : Act} {w : World} {all : Array Oper}

theorem adw_steps : ∀ (l : List Oper) (env : Env) (K : Env → Prop), adw P Φ all l env M K → ∃ (E : Nat → Env) (V : Nat → AV), E 0 = env ∧ (∀ j o, l[j]? = some o → dstep P Φ all o (E j) M (V j) ∧ E (j + 1) = wr o.dst (V j) (E j)) ∧ K (E l.length)
  | [], env, K, h => ⟨fun _ => env, fun _ => .any, rfl, fun j o h => by simp at h, h⟩
  | o :: rest, env, K, h => by
    have key : ∃ v, dstep P Φ all o env M v ∧ adw P Φ all rest (wr o.dst v env) M K := by
      simp only [adw] at h
      unfold dstep
      split at h
      · exact ⟨_, ⟨h.1, rfl⟩, h.2⟩
      · rename_i j want hg
        split at h
        · exact ⟨_, ⟨h.1, h.2.1, rfl⟩, h.2.2⟩
        · exact h.elim
    obtain ⟨v, h1, h2⟩ := key
    obtain ⟨E, V, e1, e2, e3⟩ := adw_steps rest _ K h2
    refine ⟨fun j => match j with | 0 => env | j + 1 => E j, fun j => match j with | 0 => v | j + 1 => V j, rfl, fun j x hj => ?_, by simpa using e3⟩
    cases j with
    | zero =>
      simp only [List.getElem?_cons_zero, Option.some.injEq] at hj
      subst hj
      exact ⟨h1, e1⟩
    | succ j =>
      simp only [List.getElem?_cons_succ] at hj
      exact e2 j x hj

theorem gt_wr (d : Option Nat) (v : AV) (env : Env) (t : Nat) : gt (wr d v env) t = if d = some t then v else gt env t := by
  cases d with
  | none => simp [wr]
  | some k => simp only [wr, gt, Option.some.injEq]

theorem steps_gt {l : List Oper} {E : Nat → Env} {V : Nat → AV} (h2 : ∀ j o, l[j]? = some o → E (j + 1) = wr o.dst (V j) (E j)) : ∀ (j t : Nat), j ≤ l.length →
    ((∀ (i : Nat) (o : Oper), l[i]? = some o → i < j → o.dst ≠ some t) → gt (E j) t = gt (E 0) t) ∧
    (∀ (i : Nat) (o : Oper), l[i]? = some o → i < j → o.dst = some t → (∀ (i' : Nat) (o' : Oper), l[i']? = some o' → i' < j → o'.dst = some t → i' = i) → gt (E j) t = V i)
  | 0, t, _ => ⟨fun _ => rfl, fun i o _ h => by omega⟩
  | j + 1, t, hj => by
    obtain ⟨a1, a2⟩ := steps_gt h2 j t (by omega)
    have ho : l[j]? = some l[j] := List.getElem?_eq_getElem (by omega)
    rw [h2 j _ ho, gt_wr]
    refine ⟨fun h => ?_, fun i o hi hlt hd hu => ?_⟩
    · rw [if_neg (h j _ ho (by omega))]
      exact a1 fun i o hi hlt => h i o hi (by omega)
    · by_cases e : i = j
      · subst e; rw [ho] at hi; cases hi; rw [if_pos hd]
      · rw [if_neg (fun hh => e (hu j _ ho (by omega) hh).symm)]
        exact a2 i o hi (by omega) hd fun i' o' hi' hl' => hu i' o' hi' (by omega)

/-- An operation of a drawn part, where its operands hold what its text says. -/
theorem dstep_ok (hΦ : Good P Φ) (h : St F p env M a w) {envj : Env} {o : Oper} {v : AV} (hd : dstep P Φ all o envj M v) (hl : ∀ t ∈ o.looksAt all, gt env t = gt envj t)
    (hdst : ∀ k, o.dst = some k → F.ok k) {j : Nat} (hj : all[j]? = some o) (K : Act → World → Prop) (QQ : Exit → Act → World → Prop)
    (hK : ∀ a' w', St F p (wr o.dst v env) M a' w' → K a' w') : wpOp P all QQ j K a w := by
  have hops : evOp P Φ o (rd env) M = evOp P Φ o (rd envj) M := evOp_congr o fun x hx => by
    cases x with
    | tmp t =>
      have : t ∈ o.looksAt all := List.mem_append_left _ (List.mem_filterMap.2 ⟨.tmp t, by simpa using hx, rfl⟩)
      simpa only [rd] using hl t this
    | const c => rfl
    | global g => rfl
    | func f => rfl
  unfold wpOp
  rw [hj]
  simp only
  unfold dstep at hd
  cases hg : o.guard with
  | none =>
    rw [hg] at hd
    obtain ⟨h1, rfl⟩ := hd
    rw [if_pos (by simp [Region.wanted, hg])]
    rw [← hops] at h1 hK
    exact .inl (evOp_frz hΦ h o h1 K QQ fun u w' he hr => hK _ _ ((h.ext he).wrO _ u hr hdst))
  | some g =>
    obtain ⟨jg, want⟩ := g
    rw [hg] at hd
    simp only at hd
    cases hdj : (all[jg]?).bind (·.dst) with
    | none => rw [hdj] at hd; exact hd.elim
    | some dj =>
      rw [hdj] at hd
      obtain ⟨k1, k2, rfl⟩ := hd
      have hgt : gt env dj = gt envj dj := hl dj (List.mem_append_right _ (by simp [hg, hdj]))
      rw [← hgt] at k1 k2 hK
      rw [← hops] at k2 hK
      have hy := gc_ok _ _ want k1 (h.slots dj)
      have hw : Region.wanted o (yielded all a.tmps) = (yB (a.tmps.getD dj undef) == some want) := by simp only [Region.wanted, hg, yielded_eq hdj]
      rw [hw]
      by_cases hc : gc (gt env dj) want
      · rw [if_pos (hy.2 hc)]
        exact .inl (evOp_frz hΦ h o (k2 hc) K QQ fun u w' he hr => hK _ _ ((h.ext he).wrO _ u (by simp only [RelV]; exact ⟨fun _ => hr, fun hn => absurd hc hn⟩) hdst))
      · rw [if_neg (fun hh => hc (hy.1 hh))]
        exact hK _ _ (h.wrO _ undef (by simp only [RelV]; exact ⟨fun hn => absurd hn hc, fun _ => trivial⟩) hdst)

theorem aw_step (hΦ : Good P Φ) (h : St F p env M a w) {o : Oper} {rest : List Oper} {K : Env → Mem → Prop} (hk : aw P Φ all (o :: rest) env M K)
    (hdst : ∀ k, o.dst = some k → F.ok k) {j : Nat} (hj : all[j]? = some o) (Q : Exit → Act → World → Prop) :
    wpOp P all Q j (fun a' w' => ∃ p' env' M', St F p' env' M' a' w' ∧ aw P Φ all rest env' M' K) a w := by
  unfold wpOp
  rw [hj]
  simp only
  simp only [aw] at hk
  cases hg : o.guard with
  | none =>
    rw [hg] at hk
    rw [if_pos (by simp [Region.wanted, hg])]
    refine .inl (Oper.wp_mono (fun a' w' ⟨q, v, h1, h2, h3, _⟩ => ?_) (evOp_ok hΦ h o hk.1 Q))
    rw [h1]
    exact ⟨q, _, _, h2.wrO _ v h3 hdst, hk.2⟩
  | some g =>
    obtain ⟨jg, want⟩ := g
    rw [hg] at hk
    simp only at hk
    cases hdj : (all[jg]?).bind (·.dst) with
    | none => rw [hdj] at hk; exact hk.elim
    | some dj =>
      rw [hdj] at hk
      obtain ⟨k1, k2, k3⟩ := hk
      have hy := gc_ok _ _ want k1 (h.slots dj)
      have hw : Region.wanted o (yielded all a.tmps) = (yB (a.tmps.getD dj undef) == some want) := by simp only [Region.wanted, hg, yielded_eq hdj]
      rw [hw]
      by_cases hc : gc (gt env dj) want
      · rw [if_pos (hy.2 hc)]
        exact .inl (evOp_frz hΦ h o (k2 hc) _ Q fun v w' he hr => ⟨p, _, _, (h.ext he).wrO _ v (by simp only [RelV]; exact ⟨fun _ => hr, fun hn => absurd hc hn⟩) hdst, k3⟩)
      · rw [if_neg (fun hh => hc (hy.1 hh))]
        exact ⟨p, _, _, h.wrO _ undef (by simp only [RelV]; exact ⟨fun hn => absurd hn hc, fun _ => trivial⟩) hdst, k3⟩

theorem okTail_spec {ms : List Nat} {m : Nat} (h : okTail all ms m = true) {j : Nat} (hj : j < all.size) (hm : m ≤ j) {i : Nat} (hi : i < j) : (ms.getD j 0).testBit i = true := by
  have := List.all_eq_true.1 h j (by simpa using hj)
  simp only [Bool.or_eq_true] at this
  rcases this with h1 | h1
  · rw [Nat.blt_eq] at h1; omega
  · exact List.all_eq_true.1 h1 i (by simpa using hi)

theorem draw_tail (hΦ : Good P Φ) (Q : Exit → Act → World → Prop) (K : Env → Mem → Prop) (hQ : ∀ p env M a w, St F p env M a w → K env M → Q .normal a w) (hb : backs 0 all.toList = true) (m : Nat) (ht : okTail all (masks [] all.toList) m = true)
    (hdst : ∀ o ∈ all.toList, ∀ k, o.dst = some k → F.ok k) :
    ∀ (fuel : Nat) (listed : Array Bool) (c : Nat) (p : Pl) (env : Env) (M : Mem) (a : Act) (w : World), listed.size = all.size → (∀ i, i < all.size → (isL listed i ↔ i < c)) → m ≤ c → unl listed all.size ≤ fuel → Down all listed →
      St F p env M a w → aw P Φ all (all.toList.drop c) env M K → wpAny P .any all Q fuel listed a w := by
  intro fuel
  have done : ∀ (listed : Array Bool) (c : Nat) (p : Pl) (env : Env) (M : Mem) (a : Act) (w : World), listed.size = all.size → (∀ i, i < all.size → (isL listed i ↔ i < c)) → Region.ready .any all listed = [] → St F p env M a w → aw P Φ all (all.toList.drop c) env M K → Q .normal a w := by
    intro listed c p env M a w hs hl hr hst hk
    have hc : all.toList.length ≤ c := by
      rcases Nat.lt_or_ge c all.size with h | h
      · have := (hl c h).1 (ready_some hs hb hr c h); omega
      · simpa using h
    rw [List.drop_eq_nil_of_le hc] at hk
    simp only [aw] at hk
    exact hQ p env M a w hst hk
  have noready : ∀ (listed : Array Bool), listed.size = all.size → unl listed all.size = 0 → Region.ready .any all listed = [] := by
    intro listed hs hu
    cases hr : Region.ready .any all listed with
    | nil => rfl
    | cons i r =>
      obtain ⟨o, h1, h2, _⟩ := ready_edges (j := i) (by rw [hr]; simp)
      have hi := (Array.getElem?_eq_some_iff.1 h1).1
      have := unl_zero hu i hi
      unfold isL at this
      simp [hs, hi] at this h2
      rw [this] at h2; cases h2
  induction fuel with
  | zero =>
    intro listed c p env M a w hs hl hm hu _ hst hk
    have hr := noready listed hs (by omega)
    exact ⟨hr, done listed c p env M a w hs hl hr hst hk⟩
  | succ fuel ih =>
    intro listed c p env M a w hs hl hm hu hdn hst hk
    refine ⟨fun hr => done listed c p env M a w hs hl hr hst hk, fun j hj => ?_⟩
    obtain ⟨o, h1, h2, h3⟩ := ready_edges hj
    have hjs := (Array.getElem?_eq_some_iff.1 h1).1
    have hnl : ¬ isL listed j := by
      unfold isL; simp [hs, hjs] at h2 ⊢; exact h2
    have hcj : c ≤ j := by rcases Nat.lt_or_ge j c with h | h; · exact absurd ((hl j hjs).2 h) hnl
                           · exact h
    have hjc : j = c := by
      rcases Nat.lt_or_ge c j with h | h
      · have := mask_listed hdn hb j o h1 h3 c (okTail_spec ht hjs (by omega) h)
        have := (hl c (by omega)).1 this
        omega
      · omega
    subst hjc
    have hdrop : all.toList.drop j = o :: all.toList.drop (j + 1) := by
      rw [List.drop_eq_getElem_cons (by simpa using hjs)]
      congr 1
      have := (Array.getElem?_eq_some_iff.1 h1).2
      simpa using this
    rw [hdrop] at hk
    refine wpOp_mono (fun a' w' ⟨p', env', M', e1, e2⟩ => ih _ (j + 1) p' env' M' a' w' (by simpa using hs) (fun i hi => ?_) (by omega) ?_ (hdn.set hj) e1 e2) (aw_step hΦ hst hk (hdst o (by rw [Array.mem_toList_iff]; exact Array.mem_of_getElem? h1)) h1 Q)
    · by_cases e : i = j
      · subst e; simp [isL, hs, hi]
      · unfold isL at hl ⊢
        rw [getD_set_ne false (Ne.symm e), hl i hi]; omega
    · have := unl_set (by rw [hs]; exact hjs) hnl all.size hjs
      omega

theorem okDraw_spec {ms : List Nat} {m : Nat} (h : okDraw all ms m = true) {i j : Nat} (hi : i < m) (hj : j < m) (hne : i ≠ j) {x y : Oper} (hx : all[i]? = some x) (hy : all[j]? = some y) : okPair all ms i j x y = true := by
  have := List.all_eq_true.1 (List.all_eq_true.1 h i (by simpa using hi)) j (by simpa using hj)
  rw [hx, hy] at this
  simp only [Bool.or_eq_true] at this
  rcases this with h1 | h1
  · exact absurd (Nat.eq_of_beq_eq_true h1) hne
  · exact h1

theorem okPair_dst {ms : List Nat} {i j : Nat} {x y : Oper} (h : okPair all ms i j x y = true) {t : Nat} (hx : x.dst = some t) : y.dst ≠ some t := by
  unfold okPair at h
  rw [hx] at h
  simp only [Bool.and_eq_true] at h
  intro hy
  rw [hy] at h
  simp at h

theorem okPair_look {ms : List Nat} {i j : Nat} {x y : Oper} (h : okPair all ms i j x y = true) {t : Nat} (hx : x.dst = some t) (ht : t ∈ y.looksAt all) : if i < j then (ms.getD j 0).testBit i = true else (ms.getD i 0).testBit j = true := by
  unfold okPair at h
  rw [hx] at h
  simp only [Bool.and_eq_true, Bool.or_eq_true, Bool.not_eq_true'] at h
  have h2 := h.2
  have hc : (looks all y).contains t = true := by simpa [looks] using ht
  rcases h2 with h2 | h2
  · rw [hc] at h2; cases h2
  · split
    · rename_i hlt; rw [if_pos hlt] at h2; exact h2
    · rename_i hlt; rw [if_neg hlt] at h2; exact h2


theorem toList_get {j : Nat} : all.toList[j]? = all[j]? := by simp

theorem draw_head (hΦ : Good P Φ) (Q : Exit → Act → World → Prop) (K : Env → Mem → Prop) (hQ : ∀ p env M a w, St F p env M a w → K env M → Q .normal a w) (hb : backs 0 all.toList = true) (m : Nat) (hmn : m ≤ all.size)
    (ht : okTail all (masks [] all.toList) m = true) (hdr : okDraw all (masks [] all.toList) m = true)
    (hdst : ∀ o ∈ all.toList, ∀ k, o.dst = some k → F.ok k) (E : Nat → Env) (V : Nat → AV) (hE : ∀ j o, (all.toList.take m)[j]? = some o → dstep P Φ all o (E j) M (V j) ∧ E (j + 1) = wr o.dst (V j) (E j))
    (hlast : aw P Φ all (all.toList.drop m) (E m) M K) :
    ∀ (fuel : Nat) (listed : Array Bool) (env : Env) (a : Act) (w : World), listed.size = all.size → (∀ i, i < all.size → isL listed i → i < m) → unl listed all.size ≤ fuel → Down all listed →
      (∀ t, ((∀ i o, all[i]? = some o → isL listed i → o.dst ≠ some t) → gt env t = gt (E 0) t) ∧ ∀ i o, all[i]? = some o → isL listed i → o.dst = some t → gt env t = V i) →
      St F p env M a w → wpAny P .any all Q fuel listed a w := by
  have htake : ∀ j o, j < m → all[j]? = some o → (all.toList.take m)[j]? = some o := fun j o hj ho => by
    rw [List.getElem?_take_of_lt hj, toList_get]; exact ho
  have hlen : (all.toList.take m).length = m := by simp [hmn]
  have uniq : ∀ i j x y t, i < m → j < m → all[i]? = some x → all[j]? = some y → x.dst = some t → y.dst = some t → i = j := fun i j x y t hi hj hx hy h1 h2 => by
    rcases Nat.decEq i j with h | h
    · exact absurd h2 (okPair_dst (okDraw_spec hdr hi hj h hx hy) h1)
    · exact h
  have take_lt : ∀ i o, (all.toList.take m)[i]? = some o → i < m ∧ all[i]? = some o := fun i o h => by
    have h1 := (List.getElem?_eq_some_iff.1 h).1
    rw [hlen] at h1
    rw [List.getElem?_take_of_lt h1, toList_get] at h
    exact ⟨h1, h⟩
  have hgt := steps_gt (fun j o h => (hE j o h).2)
  intro fuel
  induction fuel with
  | zero =>
    intro listed env a w hs hl hu hdn hg hst
    by_cases hall : ∀ i, i < m → isL listed i
    · refine draw_tail hΦ Q K hQ hb m ht hdst 0 listed m p (E m) M a w hs (fun i hi => ⟨hl i hi, hall i⟩) (Nat.le_refl _) hu hdn (hst.weak fun t => .inr ?_) hlast
      by_cases ht : ∃ i o, all[i]? = some o ∧ i < m ∧ o.dst = some t
      · obtain ⟨i, o, h1, h2, h3⟩ := ht
        rw [(hg t).2 i o h1 (hall i h2) h3]
        exact (hgt m t (by omega)).2 i o (htake i o h2 h1) h2 h3 fun i' o' h1' h2' h3' => uniq i' i o' o t h2' h2 (take_lt i' o' h1').2 h1 h3' h3
      · rw [(hg t).1 fun i o h1 h2 h3 => ht ⟨i, o, h1, hl i (Array.getElem?_eq_some_iff.1 h1).1 h2, h3⟩]
        exact (hgt m t (by omega)).1 fun i o h1 h2 h3 => ht ⟨i, o, (take_lt i o h1).2, h2, h3⟩
    · exact absurd (fun i hi => unl_zero (Nat.le_zero.1 hu) i (by omega)) hall
  | succ fuel ih =>
    intro listed env a w hs hl hu hdn hg hst
    by_cases hall : ∀ i, i < m → isL listed i
    · refine draw_tail hΦ Q K hQ hb m ht hdst (fuel + 1) listed m p (E m) M a w hs (fun i hi => ⟨hl i hi, hall i⟩) (Nat.le_refl _) hu hdn (hst.weak fun t => .inr ?_) hlast
      by_cases ht : ∃ i o, all[i]? = some o ∧ i < m ∧ o.dst = some t
      · obtain ⟨i, o, h1, h2, h3⟩ := ht
        rw [(hg t).2 i o h1 (hall i h2) h3]
        exact (hgt m t (by omega)).2 i o (htake i o h2 h1) h2 h3 fun i' o' h1' h2' h3' => uniq i' i o' o t h2' h2 (take_lt i' o' h1').2 h1 h3' h3
      · rw [(hg t).1 fun i o h1 h2 h3 => ht ⟨i, o, h1, hl i (Array.getElem?_eq_some_iff.1 h1).1 h2, h3⟩]
        exact (hgt m t (by omega)).1 fun i o h1 h2 h3 => ht ⟨i, o, (take_lt i o h1).2, h2, h3⟩
    · refine ⟨fun hr => absurd (fun i hi => ready_some hs hb hr i (by omega)) hall, fun j hj => ?_⟩
      obtain ⟨o, h1, h2, h3⟩ := ready_edges hj
      have hjs := (Array.getElem?_eq_some_iff.1 h1).1
      have hnl : ¬ isL listed j := by
        unfold isL; simp [hs, hjs] at h2 ⊢; exact h2
      have hjm : j < m := by
        rcases Nat.lt_or_ge j m with h | h
        · exact h
        · exact absurd (fun i hi => mask_listed hdn hb j o h1 h3 i (okTail_spec ht hjs h (by omega))) hall
      obtain ⟨d1, d2⟩ := hE j o (htake j o hjm h1)
      have hlook : ∀ t ∈ o.looksAt all, gt env t = gt (E j) t := fun t htl => by
        by_cases hw : ∃ i x, all[i]? = some x ∧ i < m ∧ x.dst = some t
        · obtain ⟨i, x, e1, e2, e3⟩ := hw
          by_cases hij : i < j
          · have hpair := okPair_look (okDraw_spec hdr e2 hjm (by omega) e1 h1) e3 htl
            rw [if_pos hij] at hpair
            have hli := mask_listed hdn hb j o h1 h3 i hpair
            rw [(hg t).2 i x e1 hli e3]
            exact ((hgt j t (by omega)).2 i x (htake i x e2 e1) hij e3 fun i' o' h1' h2' h3' => uniq i' i o' x t (by omega) e2 (take_lt i' o' h1').2 e1 h3' e3).symm
          · have hnli : ¬ isL listed i := fun hli => by
              by_cases e : i = j
              · subst e; exact hnl hli
              · have hpair := okPair_look (okDraw_spec hdr e2 hjm e e1 h1) e3 htl
                rw [if_neg hij] at hpair
                exact hnl (mask_listed hdn hb i x e1 (fun e' he' hb' => hdn i x e1 hli e' he' hb') j hpair)
            rw [(hg t).1 fun i' o' h1' h2' h3' => hnli (uniq i' i o' x t (hl i' (Array.getElem?_eq_some_iff.1 h1').1 h2') e2 h1' e1 h3' e3 ▸ h2')]
            exact ((hgt j t (by omega)).1 fun i' o' h1' h2' h3' => hij (uniq i' i o' x t (by omega) e2 (take_lt i' o' h1').2 e1 h3' e3 ▸ h2')).symm
        · rw [(hg t).1 fun i x h1 h2 h3 => hw ⟨i, x, h1, hl i (Array.getElem?_eq_some_iff.1 h1).1 h2, h3⟩]
          exact ((hgt j t (by omega)).1 fun i x h1 h2 h3 => hw ⟨i, x, (take_lt i x h1).2, by omega, h3⟩).symm
      refine dstep_ok hΦ hst d1 hlook (hdst o (by rw [Array.mem_toList_iff]; exact Array.mem_of_getElem? h1)) h1 _ Q fun a' w' hst' => ih _ _ a' w' (by simpa using hs) (fun i hi hli => ?_) ?_ (hdn.set hj) (fun t => ⟨fun hno => ?_, fun i x hx hli hxd => ?_⟩) hst'
      · by_cases e : i = j
        · omega
        · refine hl i hi ?_
          unfold isL at hli ⊢
          rwa [getD_set_ne false (Ne.symm e)] at hli
      · have := unl_set (by rw [hs]; exact hjs) hnl all.size hjs
        omega
      · rw [gt_wr, if_neg (hno j o h1 (by simp [isL, hs, hjs]))]
        refine (hg t).1 fun i x hx hli => hno i x hx (getD_set_true hli)
      · rw [gt_wr]
        by_cases e : i = j
        · subst e; rw [h1] at hx; cases hx; rw [if_pos hxd]
        · have hli' : isL listed i := by
            unfold isL at hli ⊢
            rwa [getD_set_ne false (Ne.symm e)] at hli
          have him := hl i (Array.getElem?_eq_some_iff.1 hx).1 hli'
          rw [if_neg (fun hod => e (uniq i j x o t him hjm hx h1 hxd hod))]
          exact (hg t).2 i x hx hli' hxd

theorem isL_rep {n i : Nat} : ¬ isL (Array.replicate n false) i := by
  unfold isL
  simp [Array.getElem?_replicate]
  split <;> simp

theorem unl_le (listed : Array Bool) : ∀ n, unl listed n ≤ n
  | 0 => Nat.le_refl _
  | n + 1 => by rw [unl]; have := unl_le listed n; split <;> omega

theorem St.drew (h : St F p env M a w) : St F p env M a { w with drawn := w.drawn + 1 } :=
  h.ext ⟨rfl, rfl, rfl, Nat.le_refl _, fun _ _ => rfl⟩

/-- the checks of a drawn region, at once -/
def okReg (l : List Oper) (m : Nat) : Bool := backs 0 l && (Nat.ble m l.length && (okTail l.toArray (masks [] l) m && okDraw l.toArray (masks [] l) m))

theorem WP.draw {Q : Exit → Env → Mem → Prop} {id : Nat} {l : List Oper} {Φ : FuncId → List AV → CtR} (hΦ : Good P Φ) {np nt : Nat} (hnt : F.nt = nt ∧ F.np = np) (hmix : P.follows .mixedOrders = true) (m : Nat) (hd : dstOk np nt l = true) (hr : okReg l m = true)
    (h : ∀ K : Env → Mem → Prop, (∀ env M, Q .normal env M → K env M) → adw P Φ l.toArray (l.take m) env M (fun env => aw P Φ l.toArray (l.drop m) env M K)) :
    WP P F (.region id l.toArray true) Q env M := fun p a w hs => by
  simp only [okReg, Bool.and_eq_true] at hr
  obtain ⟨h1, h2, h3, h4⟩ := hr
  obtain ⟨E, V, e0, e1, e2⟩ := adw_steps _ _ _ (h (fun env M => Q .normal env M) fun _ _ h => h)
  have hm : m ≤ l.length := Nat.le_of_ble_eq_true h2
  rw [List.length_take, Nat.min_eq_left hm] at e2
  refine wp_region_any hmix ?_
  refine draw_head hΦ (lift F Q) (fun env M => Q .normal env M) (fun p env M a w h1 h2 => ⟨p, env, M, h1, h2⟩) h1 m (by simpa using hm) h3 h4 (by simpa using dstOk_spec hnt hd) E V e1 e2 _ _ env a _ (by simp) (fun i _ hi => absurd hi isL_rep) (unl_le _ _) (fun j o _ hi => absurd hi isL_rep)
    (fun t => ⟨fun _ => by rw [e0], fun i o _ hi => absurd hi isL_rep⟩) hs.drew

end
end Go.Am

/- The abstract machine: functions that write a slice of the caller's own. -/
namespace Go.Am
open Go.RowKit

/-- The function writes the slice handed in as its first argument, and nothing else. -/
def SpecW (P : Program) (f : FuncId) (ds : List D) (e : TypeId) (sz n : Nat) (g g' : Nat → List D) (res : D) : Prop :=
  Callable P f ∧ (∀ i, i < n → ∀ x, x ∈ g' i → x.flat = true) ∧ res.flat = true ∧
  ∀ (w : World) (v0 : Value) (vs : List Value), RelO (fun _ => v0) (fun _ => False) (fun _ => False) w (.arr false e sz n g) v0 → RelDs (fun _ => False) w ds vs → (∀ b, root v0 = some b → b < w.heap.size) →
    Calls P f (v0 :: vs).toArray w fun en w' => ∃ v, en = .returned v ∧ RelD (fun _ => False) w' res v ∧ RelO (fun _ => v0) (fun _ => False) (fun _ => False) w' (.arr false e sz n g') v0 ∧ w.grownBy w' (root v0)

/-- what must hold at the end -/
def RetW (P : Program) (rs : List ResultVar) (e : TypeId) (sz n : Nat) (g' : Nat → List D) (res : D) : Exit → Env → Mem → Prop := fun en env M =>
  (en = .normal ∨ en = .ret) ∧ (resVs P env M rs).1 ∧ oneOrTup (resVs P env M rs).2 = .d res ∧ gt env 0 = .own gid ∧ ∃ fr, oLe (go M gid) (.arr fr e sz n g')

section
variable {P : Program}

theorem flat_rels {Im Im' : Nat → Prop} {w w' : World} : (l : List D) → (vs : List Value) → (∀ x, x ∈ l → x.flat = true) → RelDs Im w l vs → RelDs Im' w' l vs
  | [], vs, _, h => by simpa only [RelDs] using h
  | x :: l, vs, hf, h => by
    simp only [RelDs] at h ⊢
    obtain ⟨u, us, h1, h2, h3⟩ := h
    exact ⟨u, us, h1, flat_rel (hf x (by simp)) h2, flat_rels l us (fun y hy => hf y (by simp [hy])) h3⟩

theorem relDs_d {β : Nat → Value} {Im : Nat → Prop} {w : World} : (l : List D) → (vs : List Value) → (RelL β Im w (l.map .d) vs ↔ RelDs Im w l vs)
  | [], vs => by simp only [List.map_nil, RelL, RelDs]
  | x :: l, vs => by
    simp only [List.map_cons, RelL, RelDs, RelV]
    exact ⟨fun ⟨u, us, h1, h2, h3⟩ => ⟨u, us, h1, h2, (relDs_d l us).1 h3⟩, fun ⟨u, us, h1, h2, h3⟩ => ⟨u, us, h1, h2, (relDs_d l us).2 h3⟩⟩

theorem spec_of_mut {f : FuncId} {fn : Func} {c : Code} (hf : P.funcs[f]? = some fn) (hb : fn.body = some c) (hn : (fn.name == "runtime.NumGoroutine") = false) (ds : List D) (hds : ∀ x, x ∈ ds → x.flat = true) (nt : Nat) (hnt : fn.ntmps = nt) (hlen : ds.length + 1 ≤ nt)
    (rs : List ResultVar) (hrs : fn.results.toList = rs) (e : TypeId) (sz n : Nat) (g g' : Nat → List D) (res : D) (hg' : ∀ i, i < n → ∀ x, x ∈ g' i → x.flat = true) (hres : res.flat = true)
    (h : ∀ F : Fr, F.nt = nt ∧ F.np = 1 → WP P F c (RetW P rs e sz n g' res) (idxE 0 (.own gid :: ds.map .d)) [(gid, .arr false e sz n g)]) : SpecW P f ds e sz n g g' res := by
  refine ⟨callable_of hf hb hn, hg', hres, fun w v0 vs hrel hvs hroot => ?_⟩
  let F : Fr := ⟨w, fun _ => False, fun b => root v0 = some b, nt, 1, fun _ => v0⟩
  let p0 : Pl := ⟨fun _ => v0, fun _ _ => False⟩
  have hvl : (ds.map AV.d).length = vs.length := (RelL.len _ _ ((relDs_d (β := p0.β) ds vs).2 hvs)).symm
  simp only [List.length_map] at hvl
  have hrel' : RelL p0.β (Imm F p0 [(gid, .arr false e sz n g)] w) w (.own gid :: ds.map .d) (v0 :: vs) := by
    simp only [RelL, RelV]
    exact ⟨v0, vs, rfl, rfl, (relDs_d ds vs).2 (flat_rels _ _ hds hvs)⟩
  have hl1 : ∀ k, Live [(gid, AObj.arr false e sz n g)] k → k = gid := fun k hk => by
    unfold Live at hk
    simp only [go] at hk
    split at hk
    · rename_i h; exact h.symm
    · cases hk
  have hst : St F p0 (idxE 0 (.own gid :: ds.map .d)) [(gid, .arr false e sz n g)] { tmps := (v0 :: vs).toArray ++ Array.replicate (fn.ntmps - (v0 :: vs).toArray.size) undef, defers := [] } w := by
    refine ⟨rfl, ⟨by simp [F]; omega, fun t ht => by obtain rfl : t = 0 := by (simp only [F] at ht; omega)
                                                     rw [Array.getD_eq_getD_getElem?, Array.getElem?_append_left (by simp)]; simp [F]⟩, fun t => ?_, ⟨fun k o hk => ?_, fun k k' b hne hk hk' => absurd ((hl1 k hk).trans (hl1 k' hk').symm) hne, fun k b hk hr => ⟨hroot b hr, .inl ⟨by rw [hl1 k hk]; exact Nat.le_refl _, hr⟩⟩, fun k b hk hr => hr.elim, fun k k' b hne hk hk' => absurd ((hl1 k hk).trans (hl1 k' hk').symm) hne, rfl, rfl, rfl, Nat.le_refl _, fun b _ _ => rfl⟩⟩
    · rw [idxE_gt]
      simp only [Nat.zero_le, if_true, Nat.sub_zero]
      cases hx : (AV.own gid :: ds.map AV.d)[t]? with
      | none => simp only [Option.getD_none, RelV]
      | some x =>
        obtain ⟨u, hu1, hu2⟩ := RelL.get _ (v0 :: vs) hrel' t x hx
        simp only [Option.getD_some]
        have : ((v0 :: vs).toArray ++ Array.replicate (fn.ntmps - (v0 :: vs).toArray.size) undef).getD t undef = u := by
          rw [Array.getD_eq_getD_getElem?, Array.getElem?_append_left (by
            have := (List.getElem?_eq_some_iff.1 hu1).1
            simpa using this)]
          simp [hu1]
        rw [this]; exact hu2
    · have := hl1 k (go_live hk)
      subst this
      simp only [go, if_true, Option.some.injEq] at hk
      subst hk
      exact RelO.keep (Im := fun _ => False) (fun b hb => hb.elim) (fun b hb => hb.elim) _ (fun k hk => by cases hk) _ (fun b _ => rfl) hrel
  refine calls_of_wp hf hb (Code.wp_mono (fun en a' w' he => ?_) (h F ⟨rfl, rfl⟩ p0 _ w hst))
  have key : ∀ p env M, St F p env M a' w' → RetW P rs e sz n g' res en env M → ∃ v, (results fn a'.tmps).run P w' = .ok v w' ∧ RelD (fun _ => False) w' res v ∧ RelO (fun _ => v0) (fun _ => False) (fun _ => False) w' (.arr false e sz n g') v0 ∧ w.grownBy w' (root v0) := by
    intro p env M hs ⟨_, q1, q2, q3, fr, q4⟩
    rw [← hrs] at q1 q2
    obtain ⟨v, hrun, hv⟩ := results_ok hs q1
    rw [q2] at hv
    simp only [RelV] at hv
    have h0 := hs.slots 0
    rw [q3, hs.nt.2 0 Nat.zero_lt_one] at h0
    simp only [RelV] at h0
    refine ⟨v, hrun, flat_rel hres hv, ?_, ⟨hs.hp.os, hs.hp.tape, hs.hp.output, hs.hp.size, fun b hb hne => hs.hp.old b hb (fun hh => hne hh.symm)⟩⟩
    cases hgo : go M gid with
    | none => rw [hgo] at q4; exact q4.elim
    | some o =>
      rw [hgo] at q4
      have hlv := go_live hgo
      have hle : ObjLe o (.arr fr e sz n g') := q4
      have hr := hle.rel (fun b hb => (hs.hp.priv gid b hlv hb).1) (hs.hp.objs gid o hgo)
      obtain ⟨xs, r1, r2, r3, _⟩ := hr.arr_rel (fun b hb => (hs.hp.priv gid b hlv hb).1)
      rw [← h0] at r1
      simp only [RelO]
      exact ⟨xs, r1, r2, fun i hi => flat_rels _ _ (hg' i hi) (r3 i hi)⟩
  cases en with
  | normal => obtain ⟨p, env, M, h1, h2⟩ := he; obtain ⟨v, k1, k2⟩ := key p env M h1 h2; exact ⟨h1.defers, v, k1, v, rfl, k2⟩
  | ret => obtain ⟨p, env, M, h1, h2⟩ := he; obtain ⟨v, k1, k2⟩ := key p env M h1 h2; exact ⟨h1.defers, v, k1, v, rfl, k2⟩
  | exit id => obtain ⟨p, env, M, h1, h2⟩ := he; rcases h2.1 with h | h <;> cases h
  | goto l => exact he.elim
  | panic ch => exact he.elim
  | outgrown => exact he.elim

/-- a call of such a function -/
def mutV (P : Program) (o : Oper) (env : Env) (M : Mem) (K : Env → Mem → Prop) : Prop :=
  ∃ (f : FuncId) (d k : Nat) (fr : Bool) (e : TypeId) (sz n : Nat) (g g' : Nat → List D) (ds : List D) (res : D), SpecW P f ds e sz n g g' res ∧
    (match o.op with | .call c => (match c.callee with | .value (.func f') => f' = f ∧ c.args.toList.map (rd env) = .own k :: ds.map .d | _ => False) | _ => False) ∧
    o.dst = some d ∧ o.guard = none ∧ go M k = some (.arr fr e sz n g) ∧ (∀ i, i < n → ∀ x, x ∈ g i → x.flat = true) ∧ (∀ x, x ∈ ds → x.flat = true) ∧ K ((d, .d res) :: env) (setM k (.arr true e sz n g') M)

variable {F : Fr} {p : Pl} {env : Env} {M : Mem} {a : Act} {w : World} {all : Array Oper} {Φ : FuncId → List AV → CtR}

theorem mutV_ok (h : St F p env M a w) {o : Oper} {K : Env → Mem → Prop} (hm : mutV P o env M K) (hd : ∀ k, o.dst = some k → F.ok k) (K' : Act → World → Prop) (Q : Exit → Act → World → Prop)
    (hK : ∀ p env M a w, St F p env M a w → K env M → K' a w) : o.wp P a w K' Q := by
  obtain ⟨f, d, k, fr, e, sz, n, g, g', ds, res, ⟨hc, hg', hres, hs⟩, hop, hdst, hgd, hgo, hgf, hdf, hk⟩ := hm
  have hd' := hd d hdst
  obtain ⟨dst, op, ty', pos, after, guard⟩ := o
  simp only at hdst hgd
  subst hdst
  cases op <;> simp only at hop
  case call c =>
    obtain ⟨callee, args, argTypes⟩ := c
    simp only at hop
    split at hop
    · rename_i _ f'
      obtain ⟨rfl, hargs⟩ := hop
      have hl : ∀ (l : List Operand), RelL p.β (Imm F p M w) w (l.map (rd env)) (l.map a.eval) := by
        intro l
        induction l with
        | nil => simp [RelL]
        | cons x l ih => simp only [List.map_cons, RelL]; exact ⟨_, _, rfl, rd_ok h x, ih⟩
      have hrel := hl args.toList
      rw [hargs] at hrel
      simp only [RelL, RelV] at hrel
      obtain ⟨v0, vs, hvs, hv0, hvr⟩ := hrel
      have hlv := go_live hgo
      obtain ⟨xs, r1, r2, r3, _⟩ := (h.hp.objs k _ hgo).arr_rel (fun b hb => (h.hp.priv k b hlv hb).1)
      have hrun : (execOp a.eval { dst := some d, op := .call { callee := .value (.func f'), args := args, argTypes := argTypes }, type := ty', pos := pos, after := after, guard := guard }).run P w = .ok (.enter f' (v0 :: vs).toArray) w := by
        rw [show (v0 :: vs).toArray = args.map a.eval from by rw [← hvs]; apply Array.ext'; simp]
        have hcc := hc (args.map a.eval) w
        simp [execOp, resolve, Act.eval, Deferred.ofValue, invoke, hcc]
      unfold Oper.wp
      rw [hrun, Oper.upon_enter]
      refine (hs w v0 vs ?_ (flat_rels _ _ hdf ((relDs_d ds vs).1 hvr)) (fun b hb => (h.hp.own k b hlv (hv0 ▸ hb)).1)).mono fun en w' ⟨v, he, hv, ho, hgr⟩ => ?_
      · rw [hv0]
        simp only [RelO]
        exact ⟨xs, r1, r2, fun i hi => flat_rels _ _ (hgf i hi) (r3 i hi)⟩
      · subst he
        rw [hv0] at ho hgr
        simp only [RelO] at ho
        obtain ⟨xs', s1, s2, s3⟩ := ho
        have hst := h.put (w' := w') k (p.β k) (fun _ => False) (setM k (.arr true e sz n g') M) hgr (fun b hb => ⟨hlv, hb⟩) (fun q hq => go_setM_ne _ hq _) (.inr rfl) (fun b hb => .inr ⟨hlv, hb⟩)
          (fun b hb => by have := (h.hp.own k b hlv hb).1; have := hgr.size; omega) (fun b hb => hb.elim) (fun _ ob hob => by
            rw [go_setM_self _ _ hlv] at hob
            cases hob
            simp only [RelO]
            exact ⟨xs', fun _ _ => False, s1, s2, fun _ _ hh => hh, fun _ _ _ _ hh => hh.elim, fun i hi => flat_ownC _ _ (hg' i hi) (s3 i hi)⟩)
        exact hK _ _ _ _ _ (hst.write d (.d res) v (by simp only [RelV]; exact flat_rel hres hv) hd') hk
    · exact hop.elim
  all_goals exact hop.elim

theorem aw_okR (hΦ : Good P Φ) (all : Array Oper) (Q : Exit → Act → World → Prop) (K : Env → Mem → Prop) (r : List Oper) (hQ : ∀ p env M a w, St F p env M a w → K env M → wpList P all Q r a w) :
    ∀ (ops : List Oper) (p : Pl) (env : Env) (M : Mem) (a : Act) (w : World), (∀ o ∈ ops, ∀ k, o.dst = some k → F.ok k) → St F p env M a w → aw P Φ all ops env M K → wpList P all Q (ops ++ r) a w
  | [], p, env, M, a, w, _, h, hk => hQ p env M a w h hk
  | o :: rest, p, env, M, a, w, hd, h, hk => by
    have hdo := hd o (by simp)
    have hdr : ∀ o' ∈ rest, ∀ k, o'.dst = some k → F.ok k := fun o' ho' => hd o' (by simp [ho'])
    rw [List.cons_append]
    unfold wpList
    simp only [aw] at hk
    cases hg : o.guard with
    | none =>
      rw [hg] at hk
      rw [if_pos (by simp [Region.wanted, hg])]
      refine .inl (Oper.wp_mono (fun a' w' ⟨q, v, h1, h2, h3, _⟩ => ?_) (evOp_ok hΦ h o hk.1 Q))
      rw [h1]
      exact aw_okR hΦ all Q K r hQ rest q _ _ _ w' hdr (h2.wrO _ v h3 hdo) hk.2
    | some g =>
      obtain ⟨j, want⟩ := g
      rw [hg] at hk
      simp only at hk
      cases hdj : (all[j]?).bind (·.dst) with
      | none => rw [hdj] at hk; exact hk.elim
      | some dj =>
        rw [hdj] at hk
        obtain ⟨k1, k2, k3⟩ := hk
        have hy := gc_ok _ _ want k1 (h.slots dj)
        have hw : Region.wanted o (yielded all a.tmps) = (yB (a.tmps.getD dj undef) == some want) := by simp only [Region.wanted, hg, yielded_eq hdj]
        rw [hw]
        by_cases hc : gc (gt env dj) want
        · rw [if_pos (hy.2 hc)]
          refine .inl (evOp_frz hΦ h o (k2 hc) _ Q fun v w' he hr => ?_)
          exact aw_okR hΦ all Q K r hQ rest p _ _ _ w' hdr ((h.ext he).wrO _ v (by simp only [RelV]; exact ⟨fun _ => hr, fun hn => absurd hc hn⟩) hdo) k3
        · rw [if_neg (fun hh => hc (hy.1 hh))]
          exact aw_okR hΦ all Q K r hQ rest p _ _ _ w hdr (h.wrO _ undef (by simp only [RelV]; exact ⟨fun hn => absurd hn hc, fun _ => trivial⟩) hdo) k3

theorem WP.regionM {Q : Exit → Env → Mem → Prop} {id : Nat} {l1 l2 : List Oper} {o : Oper} {l : List Oper} {Φ : FuncId → List AV → CtR} (hΦ : Good P Φ) {np nt : Nat} (hnt : F.nt = nt ∧ F.np = np) (m : Nat) (hl : l.take m = l1 ∧ l.drop m = o :: l2) (hd : dstOk np nt l = true)
    (h : ∀ K : Env → Mem → Prop, (∀ env M, Q .normal env M → K env M) → aw P Φ l.toArray l1 env M (fun env M => mutV P o env M (fun env M => aw P Φ l.toArray l2 env M K))) :
    WP P F (.region id l.toArray false) Q env M := fun p a w hs => by
  refine wp_region_lit ?_
  have he : l = l1 ++ o :: l2 := by rw [← hl.1, ← hl.2, List.take_append_drop]
  have hdd := dstOk_spec hnt hd
  have h' := h (fun env M => Q .normal env M) fun _ _ h => h
  show wpList P l.toArray _ l a w
  generalize hA : l.toArray = A at h' ⊢
  have hdo : ∀ x, x ∈ l1 ++ o :: l2 → ∀ k, x.dst = some k → F.ok k := by rw [← he]; exact hdd
  rw [he]
  refine aw_okR hΦ A _ _ (o :: l2) (fun p env M a w hst hm => ?_) l1 p env M a w (fun x hx => hdo x (by simp [hx])) hs h'
  unfold wpList
  have hg : o.guard = none := by
    obtain ⟨f, d, k, fr, e, sz, n, g, g', ds, res, _, _, _, hgd, _⟩ := hm
    exact hgd
  rw [if_pos (by simp [Region.wanted, hg])]
  refine .inl (mutV_ok hst hm (hdo o (by simp)) _ _ fun p env M a w h1 h2 => ?_)
  have := aw_okR hΦ A (lift F Q) (fun env M => Q .normal env M) [] (fun p env M a w h1 h2 => by unfold wpList; exact ⟨p, env, M, h1, h2⟩) l2 p env M a w (fun x hx => hdo x (by simp [hx])) h1 h2
  simpa using this

end
end Go.Am

/- The abstract machine: lists as data, tables of contracts. -/
namespace Go.Am
open Go.RowKit

/-- the rows of a list -/
def lst {α : Type} (g : α → List D) (z : α) (l : List α) : Nat → List D := fun i => g (l.getD i z)

theorem lst_app {α : Type} (g : α → List D) (z : α) (l : List α) (x : α) (zs : List D) (hz : zs = g z) : appF zs l.length (lst g z l) 1 (fun i => ((g x).drop (i * (g x).length)).take (g x).length) = lst g z (l ++ [x]) := by
  subst hz
  funext i
  unfold appF lst
  by_cases h : i < l.length
  · rw [if_pos h]; congr 1
    rw [List.getD_eq_getElem?_getD, List.getD_eq_getElem?_getD, List.getElem?_append_left h]
  · rw [if_neg h]
    by_cases e : i = l.length
    · subst e
      rw [if_pos (by omega)]
      simp
    · rw [if_neg (by omega)]
      congr 1
      rw [List.getD_eq_getElem?_getD, List.getElem?_eq_none (by simp; omega)]; rfl

theorem lst_set {α : Type} (g : α → List D) (z : α) (l : List α) (i j : Nat) (y : D) (x : α) (hi : i < l.length) (h : (g (l.getD i z)).set j y = g x) : setF (lst g z l) i j y = lst g z (l.set i x) := by
  funext i'
  unfold setF lst
  by_cases e : i' = i
  · subst e
    rw [if_pos rfl, h]
    congr 1
    simp [List.getD_eq_getElem?_getD, hi]
  · rw [if_neg e]
    congr 1
    simp [List.getD_eq_getElem?_getD, Ne.symm e]

theorem lst_rep {α : Type} (g : α → List D) (z : α) (n : Nat) : (fun _ => g z) = lst g z (List.replicate n z) := by
  funext i
  unfold lst
  congr 1
  rw [List.getD_eq_getElem?_getD, List.getElem?_replicate]
  split <;> rfl

def i64C (x : Int) : List D := [.int .i64 x]
def boolC (b : Bool) : List D := [.bool b]
def intsF (l : List Int) : Nat → List D := fun i => [.int .i64 (l.getD i 0)]
def boolsF (l : List Bool) : Nat → List D := fun i => [.bool (l.getD i false)]
def ints (l : List Int) : D := .seq 1 l.length (intsF l)
def bools (l : List Bool) : D := .seq 1 l.length (boolsF l)

theorem ints_app (l : List Int) (x : Int) : appF [.int .i64 0] l.length (intsF l) 1 (rowF [.int .i64 x] 1) = intsF (l ++ [x]) := lst_app i64C 0 l x _ rfl
theorem bools_app (l : List Bool) (x : Bool) : appF [.bool false] l.length (boolsF l) 1 (rowF [.bool x] 1) = boolsF (l ++ [x]) := lst_app boolC false l x _ rfl
theorem ints_set (l : List Int) (i : Nat) (x : Int) (hi : i < l.length) : setF (intsF l) i 0 (.int .i64 x) = intsF (l.set i x) := lst_set i64C 0 l i 0 _ x hi rfl
theorem bools_set (l : List Bool) (i : Nat) (x : Bool) (hi : i < l.length) : setF (boolsF l) i 0 (.bool x) = boolsF (l.set i x) := lst_set boolC false l i 0 _ x hi rfl
theorem ints_rep (n : Nat) : (fun _ => [D.int .i64 0]) = intsF (List.replicate n 0) := lst_rep i64C 0 n
theorem bools_rep (n : Nat) : (fun _ => [D.bool false]) = boolsF (List.replicate n false) := lst_rep boolC false n

theorem intsF_ap (l : List Int) (i : Nat) : intsF l i = [.int .i64 (l.getD i 0)] := rfl
theorem boolsF_ap (l : List Bool) (i : Nat) : boolsF l i = [.bool (l.getD i false)] := rfl

/-! ### arguments read back -/

open Classical in
noncomputable def asL {α : Type} (enc : α → D) (x : AV) : Option α := if h : ∃ a, x = .d (enc a) then some (Classical.choose h) else none
theorem asL_enc {α : Type} {enc : α → D} (inj : ∀ a b, enc a = enc b → a = b) (a : α) : asL enc (.d (enc a)) = some a := by
  unfold asL
  have h : ∃ b, AV.d (enc a) = .d (enc b) := ⟨a, rfl⟩
  rw [dif_pos h]
  have h2 := AV.d.inj (Classical.choose_spec h)
  exact congrArg some (inj _ _ h2).symm
theorem asL_some {α : Type} {enc : α → D} {x : AV} {a : α} (h : asL enc x = some a) : x = .d (enc a) := by
  unfold asL at h
  split at h
  · rename_i hh
    have := Classical.choose_spec hh
    simp only [Option.some.injEq] at h
    rw [h] at this
    exact this
  · cases h

theorem getD_ext {α : Type} {z : α} {l l' : List α} (hl : l.length = l'.length) (h : ∀ i, l.getD i z = l'.getD i z) : l = l' := by
  apply List.ext_getElem hl
  intro i h1 h2
  have := h i
  rwa [List.getD_eq_getElem?_getD, List.getD_eq_getElem?_getD, List.getElem?_eq_getElem h1, List.getElem?_eq_getElem h2] at this

theorem ints_inj (a b : List Int) (h : ints a = ints b) : a = b := by
  simp only [ints, D.seq.injEq, true_and] at h
  exact getD_ext h.1 fun i => by have := congrFun h.2 i; simp only [intsF, List.cons.injEq, D.int.injEq, true_and, and_true] at this; exact this
theorem bools_inj (a b : List Bool) (h : bools a = bools b) : a = b := by
  simp only [bools, D.seq.injEq, true_and] at h
  exact getD_ext h.1 fun i => by have := congrFun h.2 i; simp only [boolsF, List.cons.injEq, D.bool.injEq, and_true] at this; exact this

theorem asInts (l : List Int) : asL ints (.d (.seq 1 l.length (intsF l))) = some l := asL_enc ints_inj l
theorem asBools (l : List Bool) : asL bools (.d (.seq 1 l.length (boolsF l))) = some l := asL_enc bools_inj l

/-! ### tables of contracts -/

def noR : CtR := ⟨False, false, .any, []⟩
def noCt : FuncId → List AV → CtR := fun _ _ => noR
theorem good_no {P : Program} : Good P noCt := fun _ _ h => h.elim
def ctC (f : FuncId) (c : List AV → CtR) (Φ : FuncId → List AV → CtR) : FuncId → List AV → CtR := fun f' args => if f' = f then c args else Φ f' args
def OkCt (P : Program) (f : FuncId) (c : List AV → CtR) : Prop := ∀ args, (c args).pre → Spec P f args (c args).sh (c args).res (c args).objs
theorem good_c {P : Program} {f : FuncId} {c : List AV → CtR} {Φ : FuncId → List AV → CtR} (h : OkCt P f c) (hΦ : Good P Φ) : Good P (ctC f c Φ) := by
  intro f' args hp
  unfold ctC at hp ⊢
  split at hp
  · rename_i e
    subst e
    rw [if_pos rfl]
    exact h args hp
  · rename_i e
    rw [if_neg e]
    exact hΦ f' args hp

section
variable {P : Program} {F : Fr} {Q : Exit → Env → Mem → Prop} {env : Env} {M : Mem}

/-- A nil slice in a slot, as an empty slice of the call's own. -/
theorem WP.nilOwn {c : Code} (t k : Nat) (e : TypeId) (sz : Nat) (f : Nat → List D) (ht : gt env t = .d (.raw (.slice none 0 0))) (h : WP P F c Q ((t, .own k) :: killE k env) ((k, .arr true e sz 0 f) :: delM k M)) : WP P F c Q env M := fun p a w hs => by
  have h1 := hs.phantom k e sz f
  refine h _ a w ⟨h1.defers, h1.nt, fun t' => ?_, h1.hp⟩
  simp only [gt]
  split
  · rename_i e'
    subst e'
    have := hs.slots t
    rw [ht] at this
    simp only [RelV, RelD] at this ⊢
    rw [this]
    simp [Pl.upd]
  · exact h1.slots t'

end
end Go.Am
namespace Go.Am
theorem getD_mem {α : Type} {z : α} {l : List α} {k : Nat} (h : k < l.length) : l.getD k z ∈ l := by
  rw [List.getD_eq_getElem?_getD, List.getElem?_eq_getElem h]
  exact List.getElem_mem h
theorem all_getD {α : Type} {z : α} {l : List α} {p : α → Bool} (h : ∀ i, i < l.length → p (l.getD i z) = true) : l.all p = true := by
  rw [List.all_eq_true]
  intro x hx
  obtain ⟨i, hi, rfl⟩ := List.getElem_of_mem hx
  have := h i hi
  rwa [List.getD_eq_getElem?_getD, List.getElem?_eq_getElem hi] at this
theorem not_all_getD {α : Type} {z : α} {l : List α} {p : α → Bool} {k : Nat} (hk : k < l.length) (h : p (l.getD k z) = false) : l.all p = false := by
  cases hh : l.all p with
  | false => rfl
  | true => rw [List.all_eq_true.1 hh _ (getD_mem hk)] at h; cases h
theorem any_getD {α : Type} {z : α} {l : List α} {p : α → Bool} {k : Nat} (hk : k < l.length) (h : p (l.getD k z) = true) : l.any p = true := List.any_eq_true.2 ⟨_, getD_mem hk, h⟩
theorem not_any_getD {α : Type} {z : α} {l : List α} {p : α → Bool} (h : ∀ i, i < l.length → p (l.getD i z) = false) : l.any p = false := by
  cases hh : l.any p with
  | false => rfl
  | true =>
    obtain ⟨x, hx, hp⟩ := List.any_eq_true.1 hh
    obtain ⟨i, hi, rfl⟩ := List.getElem_of_mem hx
    have := h i hi
    rw [List.getD_eq_getElem?_getD, List.getElem?_eq_getElem hi] at this
    rw [show (some l[i]).getD z = l[i] from rfl] at this
    rw [this] at hp; cases hp

/-- rows that hold lists -/
def isN (m : Nat) (f : Nat → List D) (xs : List (List Int)) : Prop := xs.length = m ∧ ∀ i, i < m → f i = [ints (xs.getD i [])]
open Classical in
noncomputable def asN (m : Nat) (f : Nat → List D) : Option (List (List Int)) := if h : ∃ xs, isN m f xs then some (Classical.choose h) else none
theorem asN_some {m : Nat} {f : Nat → List D} {xs : List (List Int)} (h : asN m f = some xs) : isN m f xs := by
  unfold asN at h
  split at h
  · rename_i hh
    have := Classical.choose_spec hh
    simp only [Option.some.injEq] at h
    rw [h] at this
    exact this
  · cases h
theorem asN_of {m : Nat} {f : Nat → List D} {xs : List (List Int)} (h : isN m f xs) : asN m f = some xs := by
  unfold asN
  have hh : ∃ xs, isN m f xs := ⟨xs, h⟩
  rw [dif_pos hh]
  have h2 := Classical.choose_spec hh
  refine congrArg some (getD_ext (z := []) (h2.1.trans h.1.symm) fun i => ?_)
  by_cases hi : i < m
  · have := (h2.2 i hi).symm.trans (h.2 i hi)
    simp only [List.cons.injEq, and_true] at this
    exact ints_inj _ _ this
  · rw [List.getD_eq_getElem?_getD, List.getD_eq_getElem?_getD, List.getElem?_eq_none (by rw [h2.1]; omega), List.getElem?_eq_none (by rw [h.1]; omega)]
theorem asN_one (l : List Int) : asN 1 (rowF [.seq 1 l.length (intsF l)] 1) = some [l] := asN_of ⟨rfl, fun i hi => by
  obtain rfl : i = 0 := by omega
  rfl⟩
end Go.Am
namespace Go.Am
/-- what the kind of a value says of its size -/
def bnd : AV → Prop
  | .d (.seq _ n _) => n ≤ 140737488355328
  | .d (.int k n) => inK k n
  | _ => True
def bndO : Option AObj → Prop
  | some (.arr _ _ _ n _) => n ≤ 140737488355328
  | _ => True
section
variable {P : Program} {F : Fr} {Q : Exit → Env → Mem → Prop} {env : Env} {M : Mem}
theorem WP.bnd {c : Code} (t : Nat) (h : bnd (gt env t) → WP P F c Q env M) : WP P F c Q env M := fun p a w hs => by
  refine h ?_ p a w hs
  have := hs.slots t
  unfold Am.bnd
  split
  · rename_i sz n f e
    rw [e] at this
    simp only [RelV, RelD] at this
    obtain ⟨oa, cap, h1, h2, _⟩ := this
    exact h2
  · rename_i k n e
    rw [e] at this
    simp only [RelV, RelD] at this
    exact this.2
  · trivial
theorem WP.bndO {c : Code} (k : Nat) (h : bndO (go M k) → WP P F c Q env M) : WP P F c Q env M := fun p a w hs => by
  refine h ?_ p a w hs
  unfold Am.bndO
  split
  · rename_i fr e sz n f hk
    obtain ⟨xs, _, h2, _⟩ := (hs.hp.objs k _ hk).arr_rel (fun b hb => (hs.hp.priv k b (go_live hk) hb).1)
    exact h2
  · trivial
end
end Go.Am
namespace Go.Am
theorem rowsOne1 (d : D) : rowsOne 1 (rowF [d] 1) ↔ d.one = true := by
  unfold rowsOne rowF
  constructor
  · intro h; exact h 0 (by omega) d (by simp)
  · intro h i hi x hx
    obtain rfl : i = 0 := by omega
    simp at hx; rw [hx]; exact h
end Go.Am
namespace Go.Am
theorem strip_any : AV.any.strip = .any := rfl
theorem strip_d (x : D) : (AV.d x).strip = .d x := rfl
theorem strip_own (k : Nat) : (AV.own k).strip = .own k := rfl
theorem strip_box (k o : Nat) : (AV.box k o).strip = .box k o := rfl
theorem strip_elt (k s i j : Nat) : (AV.elt k s i j).strip = .elt k s i j := rfl
theorem strip_agg (l : List AV) : (AV.agg l).strip = .agg l := rfl
theorem strip_tup (l : List AV) : (AV.tup l).strip = .tup l := rfl
theorem strip_fn (f : FuncId) (l : List AV) : (AV.fn f l).strip = .fn f l := rfl
theorem strip_gd (p : Prop) (v : AV) : (AV.gd p v).strip = v.strip := rfl
theorem sc_any : AV.any.sc = True := rfl
theorem sc_d (x : D) : (AV.d x).sc = True := rfl
theorem sc_own (k : Nat) : (AV.own k).sc = True := rfl
theorem sc_box (k o : Nat) : (AV.box k o).sc = True := rfl
theorem sc_elt (k s i j : Nat) : (AV.elt k s i j).sc = True := rfl
theorem sc_agg (l : List AV) : (AV.agg l).sc = True := rfl
theorem sc_tup (l : List AV) : (AV.tup l).sc = True := rfl
theorem sc_fn (f : FuncId) (l : List AV) : (AV.fn f l).sc = True := rfl
theorem view_d (M : Mem) (x : D) : viewA M (.d x) = .d x := rfl
theorem view_own (M : Mem) (k : Nat) : viewA M (.own k) = .d (match go M k with | some (.arr _ _ sz n f) => .seq sz n f | _ => .any) := rfl
theorem view_agg (M : Mem) (l : List AV) : viewA M (.agg l) = .agg (l.map fun x => .d (view1 M x)) := rfl
theorem view1_d (M : Mem) (x : D) : view1 M (.d x) = x := rfl
theorem view1_own (M : Mem) (k : Nat) : view1 M (.own k) = (match go M k with | some (.arr _ _ sz n f) => .seq sz n f | _ => .any) := rfl
end Go.Am

/- The abstract machine: what a statement asks of a law. -/
namespace Go.Am
open Go.RowKit

theorem law_of_spec {P : Program} {f : FuncId} {args : List AV} {vs : List Value} {w : World} (h : Spec P f args false (.d (.bool true)) []) (hr : RelL (fun _ => undef) (fun b => b < w.heap.size) w args vs) :
    Calls P f vs.toArray w fun e w' => e = .returned (.bool true) ∧ Below w.heap.size w w' :=
  (h.2 (fun b => b < w.heap.size) w (fun _ => undef) vs (fun _ hb => hb) hr).mono fun e w' ⟨v, p', he, hv, hp⟩ => by
    simp only [RelV, RelD] at hv
    subst hv
    exact ⟨he, hp.os, hp.tape, hp.output, hp.size, fun k hk => hp.old k hk (fun h => h)⟩

theorem row_ints {w : World} {a : Option Addr} {len cap : Nat} {zs : List Int} (h : (a = none ∧ len = 0 ∧ cap = 0 ∧ zs = []) ∨ ∃ x, a = some x ∧ len ≤ cap ∧ cap ≤ maxLen ∧ zs.length = cap ∧ (∀ i, i < zs.length → w.cell? (x.add i) = some (.int .i64 (zs.getD i 0))) ∧ ∀ n ∈ zs, (Lit.int .i64 n).wf = true)
    (hnb : len ≤ nb) : RelD (fun b => b < w.heap.size) w (ints (zs.take len)) (.slice a len cap) := by
  rcases h with ⟨rfl, rfl, rfl, rfl⟩ | ⟨x, rfl, h1, h2, h3, h4, h5⟩
  · simp only [ints, RelD]
    exact ⟨none, 0, rfl, Nat.zero_le _, fun _ => ⟨rfl, rfl⟩, fun a ha => by cases ha⟩
  · have hlen : (zs.take len).length = len := by rw [List.length_take]; omega
    simp only [ints, RelD, hlen]
    refine ⟨some x, cap, rfl, hnb, (fun h => by cases h), fun a ha hpos => ?_⟩
    cases ha
    have hc0 := h4 0 (by omega)
    have hspot : x.spot = none := by
      unfold World.cell? Addr.add at hc0
      rw [if_pos rfl] at hc0
      split at hc0
      · split at hc0
        · cases hc0
        · rename_i hs; simpa using hs
      · cases hc0
    have hblk : x.block < w.heap.size := by
      unfold World.cell? Addr.add at hc0
      rw [if_pos rfl] at hc0
      split at hc0
      · rename_i hb; exact (Array.getElem?_eq_some_iff.1 hb).1
      · cases hc0
    refine ⟨hspot, hblk, fun i hi => ?_⟩
    simp only [intsF, RelC, RelD, and_true]
    have hci := h4 i (by omega)
    have hadd : x.add i = ⟨x.block, x.off + i * 1, none⟩ := by
      unfold Addr.add
      split
      · rename_i e; subst e; obtain ⟨b, o, s⟩ := x; simp at hspot; subst hspot; rfl
      · simp
    rw [hadd] at hci
    have hg : (zs.take len).getD i 0 = zs.getD i 0 := by rw [List.getD_eq_getElem?_getD, List.getD_eq_getElem?_getD, List.getElem?_take_of_lt hi]
    have hw := h5 _ (getD_mem (z := 0) (l := zs) (k := i) (by omega))
    refine ⟨_, hci, by rw [hg], ?_⟩
    rw [hg]
    simpa [Lit.wf] using hw

theorem wf_i64 {n : Int} (h : (Lit.int .i64 n).wf = true) {Im : Nat → Prop} {w : World} : RelD Im w (.int .i64 n) (.int .i64 n) := by
  simp only [RelD, true_and]
  simpa [Lit.wf] using h
end Go.Am
