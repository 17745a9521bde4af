/- The typed machine that the walks of this claim go by: its data, its operations and the proof that each is sound. No condition. -/
import Derived.Test.YtigkajkcdaoojaaBmThree
import Derived.Scope
import Derived.OpenShut
import Derived.ChangeSlices
import Derived.SizedLaws
import Derived.Below
import Derived.ProofKit
import Derived.ShutString
import Derived.ChangeOld
set_option linter.unusedVariables false
set_option linter.unusedSimpArgs false
set_option linter.unusedSectionVars false
/- The typed machine: code keeps the law that is read off it. -/
namespace Go.Bm
open Go.RowKit

theorem oks_of_ok : (t : T) → (x : t.den) → t.ok x → allP (t.oks x)
  | .int k, x, h => by simp only [T.oks, allP_cons, allP_nil, and_true]; simpa only [T.ok] using h
  | .p a b, x, h => by simp only [T.ok] at h; simp only [T.oks, allP_ap]; exact ⟨oks_of_ok a _ h.1, oks_of_ok b _ h.2⟩
  | .sl e, x, h => by simp only [T.oks, allP_cons, allP_nil, and_true]; exact h
  | .pt t, x, h => by simp only [T.ok] at h; simp only [T.oks]; exact oks_of_ok t x h
  | .fn _ t, x, h => by simp only [T.ok] at h; simp only [T.oks]; exact oks_of_ok t x h
  | .str, x, h => by simp only [T.oks, allP_cons, allP_nil, and_true]; simpa only [T.ok] using h
  | .bool, x, h => by simp only [T.oks, allP_nil]
  | .u, x, h => by simp only [T.oks, allP_nil]
  | .any, x, h => by simp only [T.oks, allP_nil]

/-- the checks of a function's code, at once -/
def okC (nt : Nat) (cut : Nat → Nat) : Code → Bool
  | .region id ops draw => nob (opsOk nt (toL ops)) (bif draw then (bif Nat.beq (cut id) 999999 then okBox (toL ops) else bif Nat.ble 500 (cut id) then okHx (toL ops) (Nat.sub (cut id) 500) else okReg (toL ops) (cut id)) else true)
  | .seq a b => nob (okC nt cut a) (okC nt cut b)
  | .cond _ a b => nob (okC nt cut a) (okC nt cut b)
  | .block _ c => okC nt cut c
  | .loop c => okC nt cut c
  | .scope c => okC nt cut c
  | _ => true

def Free (fv : Nat → Option Value) : Code → Prop
  | .region _ ops _ => ∀ o ∈ toL ops, ∀ k, o.dst = some k → fv k = none
  | .seq a b => Free fv a ∧ Free fv b
  | .cond _ a b => Free fv a ∧ Free fv b
  | .block _ c => Free fv c
  | .loop c => Free fv c
  | .scope c => Free fv c
  | _ => True

theorem free_none : (c : Code) → Free (fun _ => none) c
  | .region _ _ _ => fun _ _ _ _ => rfl
  | .seq a b => ⟨free_none a, free_none b⟩
  | .cond _ a b => ⟨free_none a, free_none b⟩
  | .block _ c => free_none c
  | .loop c => free_none c
  | .scope c => free_none c
  | .skip => trivial
  | .ret => trivial
  | .exit _ => trivial
  | .goto _ => trivial
  | .label _ => trivial
  | .rangeFunc _ _ _ _ => trivial
  | .refuse _ => trivial


/-- slots that are only read for the time being -/
def mkFv (fv : Nat → Option Value) (ks : List Nat) (a : Act) : Nat → Option Value := fun t => bif memN t ks then some (a.tmps.getD t undef) else fv t
def mkF (F : Fr) (I : Nat → Prop) (w : World) (ks : List Nat) (a : Act) : Fr := ⟨F.w0, w, F.A, F.R, I, F.nt, mkFv F.fv ks a⟩

theorem noWo_mem {ks : List Nat} : {l : List Oper} → noWo ks l = true → ∀ o ∈ l, ∀ k, o.dst = some k → memN k ks = false
  | [], _, o, ho, _, _ => by cases ho
  | x :: r, h, o, ho, k, hk => by
    simp only [noWo] at h
    rcases List.mem_cons.1 ho with rfl | ho
    · rw [hk] at h
      simp only at h
      cases hm : memN k ks with
      | false => rfl
      | true => rw [hm] at h; cases h
    · refine noWo_mem ?_ o ho k hk
      split at h
      · rename_i d _
        cases hm : memN d ks with
        | false => rw [hm] at h; exact h
        | true => rw [hm] at h; cases h
      · exact h

theorem free_mk {fv : Nat → Option Value} {ks : List Nat} {a : Act} : (c : Code) → noW ks c = true → Free fv c → Free (mkFv fv ks a) c
  | .region id ops draw, h, hf => fun o ho k hk => by
    simp only [noW] at h
    unfold mkFv
    rw [noWo_mem h o ho k hk]
    exact hf o ho k hk
  | .seq x y, h, hf => by simp only [noW, nob_eq, Bool.and_eq_true] at h; exact ⟨free_mk x h.1 hf.1, free_mk y h.2 hf.2⟩
  | .cond _ x y, h, hf => by simp only [noW, nob_eq, Bool.and_eq_true] at h; exact ⟨free_mk x h.1 hf.1, free_mk y h.2 hf.2⟩
  | .block _ c, h, hf => by simp only [noW] at h; exact free_mk c h hf
  | .loop c, h, hf => by simp only [noW] at h; exact free_mk c h hf
  | .scope c, h, hf => by simp only [noW] at h; exact free_mk c h hf
  | .skip, _, _ => trivial
  | .ret, _, _ => trivial
  | .exit _, _, _ => trivial
  | .goto _, _, _ => trivial
  | .label _, _, _ => trivial
  | .rangeFunc _ _ _ _, _, _ => trivial
  | .refuse _, _, _ => trivial

def lift (F : Fr) (K : Ex → Env → Mem → Prop) : Exit → Act → World → Prop
  | .normal, a, w => ∃ p env M, St F p env M a w ∧ K .nm env M
  | .exit id, a, w => ∃ p env M, St F p env M a w ∧ K (.ex id) env M
  | .ret, a, w => ∃ p env M, St F p env M a w ∧ K .rt env M
  | _, _, _ => False

section
variable {F : Fr} {p p' p'' : Ow} {env env' : Env} {M M' M'' : Mem} {a a' : Act} {w w' w'' : World} {P : Program} {B : Tab} {Φ : FuncId → Option Ct}

theorem gt_clr : ∀ (env : Env) (t : Nat), gt (clr env) t = .any ∨ gt (clr env) t = gt env t
  | [], t => .inl rfl
  | (k, v) :: r, t => by
    simp only [clr]
    split
    · rw [gt_cons, gt_cons]
      split
      · exact .inl rfl
      · exact gt_clr r t
    · rw [gt_cons, gt_cons]
      split
      · exact .inr rfl
      · exact gt_clr r t

theorem gt_ap : ∀ (x y : Env) (t : Nat), gt (ap x y) t = gt x t ∨ gt (ap x y) t = gt y t
  | [], y, t => .inr rfl
  | (k, v) :: r, y, t => by
    simp only [ap]
    rw [gt_cons, gt_cons]
    split
    · exact .inl rfl
    · exact gt_ap r y t

theorem gt_kept (env : Env) : ∀ (ks : List Nat) (t : Nat), gt (kept env ks) t = .any ∨ (memN t ks = true ∧ isDat (gt env t) = true ∧ gt (kept env ks) t = gt env t)
  | [], t => .inl rfl
  | k :: r, t => by
    simp only [kept]
    have ih := gt_kept env r t
    have hm : memN t r = true → memN t (k :: r) = true := fun h => by simp only [memN, orb_eq, h, Bool.or_true]
    cases hd : isDat (gt env k) with
    | false =>
      simp only [cond_false]
      rcases ih with h | ⟨h1, h2, h3⟩
      · exact .inl h
      · exact .inr ⟨hm h1, h2, h3⟩
    | true =>
      simp only [cond_true]
      rw [gt_cons]
      split
      · rename_i e
        subst e
        exact .inr ⟨by simp [memN], hd, rfl⟩
      · rcases ih with h | ⟨h1, h2, h3⟩
        · exact .inl h
        · exact .inr ⟨hm h1, h2, h3⟩

theorem St.fwd (h : St F p env M a w) (ks : List Nat) : St (mkF F (Imm F p M w) w ks a) p env M a w := by
  refine ⟨h.defers, h.nt, fun t v ht => ?_, fun b hb => ⟨hb, rfl⟩, h.lz, h.slots, ⟨h.hp.objs, h.hp.sep, h.hp.own, h.hp.lim, h.hp.os, h.hp.tape, h.hp.output, h.hp.size, h.hp.old⟩⟩
  simp only [mkF, mkFv] at ht
  cases hm : memN t ks with
  | true => rw [hm] at ht; simpa using ht
  | false => rw [hm] at ht; exact h.fix t v ht

theorem St.back (h : St F p env M a w) {ks : List Nat} (h' : St (mkF F (Imm F p M w) w ks a) p' env' M' a' w') : St F p' env' M' a' w' := by
  refine ⟨h'.defers, h'.nt, fun t v ht => ?_, fun b hb => ?_, h'.lz, h'.slots, ⟨h'.hp.objs, h'.hp.sep, h'.hp.own, h'.hp.lim, h'.hp.os, h'.hp.tape, h'.hp.output, h'.hp.size, h'.hp.old⟩⟩
  · cases hm : memN t ks with
    | true =>
      rw [h'.fix t (a.tmps.getD t undef) (by simp only [mkF, mkFv, hm, cond_true])]
      exact h.fix t v ht
    | false => exact h'.fix t v (by simp only [mkF, mkFv, hm, cond_false]; exact ht)
  · obtain ⟨h1, h2⟩ := h.ik b hb
    obtain ⟨h3, h4⟩ := h'.ik b h1
    exact ⟨h3, h4.trans h2⟩

theorem St.add {ks : List Nat} {envK : Env} (hK : ∀ t, isDat (gt envK t) = true → RelS p.β M (Imm F p M w) w (gt envK t) (a.tmps.getD t undef)) (h' : St (mkF F (Imm F p M w) w ks a) p' env' M' a' w') : St (mkF F (Imm F p M w) w ks a) p' (ap env' (kept envK ks)) M' a' w' := by
  refine ⟨h'.defers, h'.nt, h'.fix, h'.ik, h'.lz, fun t => ?_, h'.hp⟩
  rcases gt_ap env' (kept envK ks) t with e | e
  · rw [e]; exact h'.slots t
  · rw [e]
    rcases gt_kept envK ks t with e' | ⟨h1, h2, h3⟩
    · rw [e']; simp only [RelS]
    · rw [h3, h'.fix t (a.tmps.getD t undef) (by simp only [mkF, mkFv, h1, cond_true])]
      exact (isDat_keep (fun b hb => h'.ik b hb) _ h2).2 _ (hK t h2)

theorem readS_oks {os : Obs} (hs : ∀ t, RelS p.β M (Imm F p M w) w (gt env t) (a.tmps.getD t undef)) : (ss : Shs) → (y : denS ss) → readS M os env ss = some y → allP (okS ss y)
  | [], y, h => by simp only [okS, allP_nil]
  | (t, s) :: r, y, h => by
    simp only [readS] at h
    split at h
    · rename_i z1 z2 h1 h2
      cases h
      have ih := readS_oks hs r z2 h2
      cases s with
      | d t' =>
        simp only [okS, allP_ap]
        simp only [Sh.read] at h1
        exact ⟨oks_of_ok _ _ (RelF.ok _ _ _ (as_rel (hs t) h1)), ih⟩
      | ref k π => simp only [okS]; exact ih
      | ad k π => simp only [okS]; exact ih
      | fn f => simp only [okS]; exact ih
    · cases h

theorem readO_oks (hp : Hp F p M w) : (os : Obs) → (x : denO os) → readO M os = some x → allP (okO os x)
  | [], x, h => by simp only [okO, allP_nil]
  | (k, o) :: r, x, h => by
    simp only [readO] at h
    split at h
    · rename_i q hq
      split at h
      · rename_i y z hy hz
        cases h
        simp only [okO, allP_ap]
        refine ⟨oks_of_ok _ _ ?_, readO_oks hp r z hz⟩
        obtain ⟨e, h1⟩ := castT_some (wkO_some hy).2
        have hok := (hp.objs k q hq).ok
        subst h1
        exact cast_ok e hok
      · cases h
    · cases h
where
  cast_ok : ∀ {s t : T} {x : s.den} (e : s = t), s.ok x → t.ok (e ▸ x) := fun e h => by subst e; exact h

theorem readA_oks (h : St F p env M a w) {ss : Shs} {os : Obs} {q : (denS ss × denO os) × Env} (hr : readA ss os env M = some q) : allP (okS ss q.1.1) ∧ allP (okO os q.1.2) := by
  unfold readA at hr
  obtain ⟨p1, h1⟩ := adopt_ok os ss p env M h
  generalize adopt os ss env M = z1 at hr h1
  obtain ⟨env1, M1⟩ := z1
  simp only at hr h1
  have h2 := frzRest_ok os (keysM M1) M1 env1 h1
  generalize frzRest os (keysM M1) M1 env1 = z2 at hr h2
  obtain ⟨env2, M2⟩ := z2
  simp only at hr h2
  split at hr
  · rename_i y x hy hx
    cases hr
    exact ⟨readS_oks h2.slots ss y hy, readO_oks h2.hp os x hx⟩
  · cases hr

/-- Where ways meet. -/
theorem join_ok (h : St F p env M a w) {ss : Shs} {os : Obs} {ks : List Nat} {c : Code} {K : Ex → Env → Mem → Prop}
    (hc : c.wp P (lift (mkF F (Imm F p M w) w ks a) (joinK ss os (onK ss os ks env K) K)) a w) : c.wp P (lift F K) a w := by
  refine Code.wp_mono (fun e a' w' hl => ?_) hc
  cases e with
  | normal =>
    obtain ⟨p1, env1, M1, h1, h2⟩ := hl
    simp only [joinK, readK] at h2
    split at h2
    · rename_i s hs
      obtain ⟨p2, h4, _⟩ := readA_ok h1 hs
      obtain ⟨o1, o2⟩ := readA_oks h1 hs
      simp only [onK, imps_iff] at h2
      exact ⟨p2, _, _, h.back (St.add (fun t _ => h.slots t) h4), h2 o1 o2⟩
    · exact h2.elim
  | exit id => obtain ⟨p1, env1, M1, h1, h2⟩ := hl; exact ⟨p1, env1, M1, h.back h1, h2⟩
  | ret => obtain ⟨p1, env1, M1, h1, h2⟩ := hl; exact ⟨p1, env1, M1, h.back h1, h2⟩
  | goto l => exact hl.elim
  | panic ch => exact hl.elim
  | outgrown => exact hl.elim

theorem draw_ok (hΦ : Good P Φ) (hB : TabOk P B) (hmix : P.follows .mixedOrders = true) {id : Nat} {ops : Array Oper} {cut : Nat} (hco : opsOk F.nt (toL ops) = true) (hfv : ∀ o ∈ toL ops, ∀ k, o.dst = some k → F.fv k = none) (hr : okReg (toL ops) cut = true) {K : Env → Mem → Prop} {Q : Exit → Act → World → Prop}
    (hQ : ∀ p env M a w, St F p env M a w → K env M → Q .normal a w) (h : St F p env M a w) (hk : dw B Φ (toL ops) (takeL cut (toL ops)) env M (fun env => tw B Φ (toL ops) (dropL cut (toL ops)) env M K)) : (Code.region id ops true).wp P Q a w := by
  rw [toL_eq] at hco hfv hr
  rw [takeL_eq, dropL_eq] at hk
  simp only [okReg, Bool.and_eq_true] at hr
  obtain ⟨h1, h2, h3, h4⟩ := hr
  obtain ⟨E, V, e0, e1, e2⟩ := adw_steps _ _ _ _ hk
  have hm : cut ≤ ops.toList.length := Nat.le_of_ble_eq_true h2
  rw [toL_eq, List.length_take, Nat.min_eq_left hm] at e2
  refine wp_region_any hmix ?_
  have := draw_head (F := F) (M := M) (p := p) (all := ops) hΦ hB Q K hQ h1 cut (by simpa using hm) (by simpa using h3) (by simpa using h4) hco hfv E V (by simpa only [toL_eq] using e1) (by simpa only [toL_eq] using e2)
  exact this _ _ env a _ (by simp) (fun i _ hi => absurd hi isL_rep) (unl_le _ _) (fun j o _ hi => absurd hi isL_rep) (fun t => ⟨fun _ => by rw [e0], fun i o _ hi => absurd hi isL_rep⟩) h.drew

theorem wp_loop_ghost {c : Code} {Q' : Exit → Act → World → Prop} {ι : Type} (I : ι → Act → World → Prop) (μ : ι → Nat)
    (round : ∀ i a w, I i a w → c.wp P (Exit.then (fun a' w' => ∃ i', μ i' < μ i ∧ I i' a' w') Q') a w) : ∀ i a w, I i a w → (Code.loop c).wp P Q' a w := by
  intro i a w h0 b k cs
  have key : ∀ n i a w, μ i = n → I i a w → ∃ e a' w', Q' e a' w' ∧ Arrives P (lone (b.at a (.code c :: .inLoop c :: k)) cs w) b k cs e a' w' := by
    intro n
    induction n using Nat.strongRecOn with
    | _ n ih =>
      intro i a w hn hI
      obtain ⟨e, a1, w1, hq, harr⟩ := round i a w hI b (.inLoop c :: k) cs
      cases e with
      | normal =>
        obtain ⟨i', hlt, hI'⟩ := hq
        obtain ⟨e2, a2, w2, hq2, harr2⟩ := ih (μ i') (hn ▸ hlt) i' a1 w1 rfl hI'
        exact ⟨e2, a2, w2, hq2, .of_steps (Steps.trans harr (.one step_inLoop)) harr2⟩
      | exit id => exact ⟨_, a1, w1, hq, .pass (x := .inLoop c) rfl (fun _ _ => .inl (by simp)) harr⟩
      | goto l => exact ⟨_, a1, w1, hq, .pass (x := .inLoop c) rfl (fun _ _ => .inl (by simp)) harr⟩
      | ret => exact ⟨_, a1, w1, hq, .pass (x := .inLoop c) rfl (fun _ _ => .inl (by simp)) harr⟩
      | panic ch => exact ⟨_, a1, w1, hq, .pass (x := .inLoop c) rfl (fun _ _ => .inl (by simp)) harr⟩
      | outgrown => exact ⟨_, a1, w1, hq, .pass (x := .inLoop c) rfl (fun _ _ => .inl (by simp)) harr⟩
  obtain ⟨e, a', w', hq, harr⟩ := key _ i a w rfl h0
  exact ⟨e, a', w', hq, .of_steps (.one step_loop) harr⟩

end
end Go.Bm

/- The typed machine: guards known where they hold. -/
namespace Go.Bm
open Go.RowKit

def InvG (all rest : List Oper) (env : Env) : Prop :=
  ∀ t j w P v, gt env t = .gd j w P v → ∃ d, dstOf all j = some d ∧ P = gc (gt env d) w ∧ gokB (gt env d) = true ∧ wIn d rest = false
def Fs (all : List Oper) (env : Env) (fs : List (Nat × Bool)) : Prop :=
  ∀ j w, memF fs j w = true → ∀ d, dstOf all j = some d → gc (gt env d) w

theorem beqB_eq {a b : Bool} (h : beqB a b = true) : a = b := by cases a <;> cases b <;> simp [beqB, neg] at h <;> rfl
theorem sameS_eq {t : Nat} {o : Option Nat} (h : sameS t o = true) : o = some t := by
  cases o with
  | none => cases h
  | some d => rw [Nat.eq_of_beq_eq_true h]
theorem sameS_self (t : Nat) : sameS t (some t) = true := Nat.beq_refl t

theorem chain_ok {all rest : List Oper} {env : Env} (hI : InvG all rest env) : ∀ (n j : Nat) (w : Bool) (d : Nat), dstOf all j = some d → gc (gt env d) w → Fs all env (chainG all env n j w)
  | 0, _, _, _, _, _ => fun _ _ h => by cases h
  | n + 1, j, w, d, hd, hg => by
    intro i w' hm d' hd'
    simp only [chainG, memF] at hm
    cases hb : nob (Nat.beq j i) (beqB w w') with
    | true =>
      simp only [nob_eq, Bool.and_eq_true] at hb
      have h1 := Nat.eq_of_beq_eq_true hb.1
      have h2 := beqB_eq hb.2
      subst h1 h2
      rw [hd] at hd'; cases hd'; exact hg
    | false =>
      rw [hb] at hm
      simp only [cond_false, hd] at hm
      cases hv : gt env d with
      | gd i2 w2 P2 v2 =>
        rw [hv] at hm
        obtain ⟨d2, h1, h2, _, _⟩ := hI _ _ _ _ _ hv
        rw [hv] at hg
        simp only [gc] at hg
        exact chain_ok hI n i2 w2 d2 h1 (h2 ▸ hg.1) i w' hm d' hd'
      | _ => rw [hv] at hm; simp [memF] at hm

theorem rd_gd {env : Env} {x : Operand} {j : Nat} {w : Bool} {P : Prop} {v : V} (h : rd env x = .gd j w P v) : ∃ t, gt env t = .gd j w P v := by
  cases x with
  | tmp t => exact ⟨t, h⟩
  | const v =>
    simp only [rd] at h
    unfold rdV at h
    split at h <;> try cases h
    · cases hb : nob (Nat.beq _ 0) (Nat.beq _ 0) <;> rw [hb] at h <;> cases h
  | func f => cases h
  | global _ => cases h

theorem needsG {all rest : List Oper} {env : Env} {fs : List (Nat × Bool)} (hI : InvG all rest env) (hf : Fs all env fs) : ∀ (l : List Operand), allP (needs (fun x => unG fs (rd env x)) l) → allP (needs (rd env) l)
  | [], _ => trivial
  | x :: r, h => by
    simp only [needs] at h ⊢
    cases hv : rd env x with
    | gd j w P v =>
      rw [hv] at h
      simp only [unG] at h
      cases hm : memF fs j w with
      | true =>
        rw [hm] at h
        obtain ⟨t, ht⟩ := rd_gd hv
        obtain ⟨d, h1, h2, _, _⟩ := hI _ _ _ _ _ ht
        refine ⟨h2 ▸ hf j w hm d h1, needsG hI hf r ?_⟩
        simp only [cond_true] at h
        split at h
        · exact h.2
        · exact h
      | false => rw [hm] at h; exact ⟨h.1, needsG hI hf r h.2⟩
    | _ => rw [hv] at h; exact needsG hI hf r h

theorem pickG_side {all rest : List Oper} {env : Env} {fs : List (Nat × Bool)} (hI : InvG all rest env) (hf : Fs all env fs) {c a : Operand} {side : Bool} (hb : (rd env c).strip.isB = true) (hc : allP (needs (rd env) [c]))
    (h : allP (pickN (rd env c).strip.boolV side (pickS all c side (unG fs (rd env a))))) : allP (pickN (rd env c).strip.boolV side (rd env a)) := by
  cases hv : rd env a with
  | gd j w P v =>
    obtain ⟨t, ht⟩ := rd_gd hv
    obtain ⟨d, h1, h2, h3, _⟩ := hI _ _ _ _ _ ht
    simp only [pickN, allP_cons, allP_nil, and_true]
    rw [hv] at h
    simp only [unG] at h
    cases hm : memF fs j w with
    | true => exact fun _ => h2 ▸ hf j w hm d h1
    | false =>
      rw [hm] at h
      simp only [cond_false] at h
      unfold pickS at h
      split at h
      · rename_i t' j' w' P' x' heq
        cases heq
        cases hs : nob (sameS t' (dstOf all j)) (beqB w side) with
        | false => rw [hs] at h; exact h.1
        | true =>
          simp only [nob_eq, Bool.and_eq_true] at hs
          have e1 := sameS_eq hs.1
          have e2 := beqB_eq hs.2
          rw [h1] at e1
          cases e1
          subst e2
          intro hcb
          subst h2
          simp only [rd] at hb hcb hc
          simp only [needs] at hc
          cases hg : gt env d with
          | gd i w' P' v' =>
            simp only [rd, hg] at hc
            rw [hg] at hb hcb
            simp only [V.strip] at hb hcb
            refine ⟨hc.1, ?_⟩
            cases v' <;> simp only [V.isB, Bool.false_eq_true] at hb
            rename_i tt x
            cases tt <;> simp only [Bool.false_eq_true] at hb
            exact hcb
          | d tt x =>
            rw [hg] at hb hcb
            cases tt <;> simp only [V.strip, V.isB, Bool.false_eq_true] at hb
            exact hcb
          | _ => rw [hg] at hb; simp [V.strip, V.isB] at hb
      · exact h.1
  | _ => simp only [pickN, allP_nil]

variable {B : Tab} {Φ : FuncId → Option Ct}

theorem evG_ok {all rest : List Oper} {env : Env} {fs : List (Nat × Bool)} (hI : InvG all rest env) (hf : Fs all env fs) (o : Oper) (M : Mem) :
    ∃ vc, evR B Φ o env M = ⟨vc, (evG B Φ all fs o env M).av, (evG B Φ all fs o env M).ev, (evG B Φ all fs o env M).M⟩ ∧ (allP (evG B Φ all fs o env M).vc → allP vc) := by
  unfold evR evG
  split
  · rename_i c a b _
    simp only [evPick, pickG, pureR]
    cases hb : allT [(rd env c).strip.isB, (rd env a).strip.isB, (rd env b).strip.isB] with
    | false => exact ⟨_, rfl, id⟩
    | true =>
      refine ⟨_, rfl, fun h => ?_⟩
      have hcB : (rd env c).strip.isB = true := by
        simp only [allT] at hb
        cases hc : (rd env c).strip.isB with
        | true => rfl
        | false => rw [hc] at hb; cases hb
      simp only [cond_true, allP_ap] at h ⊢
      have hc := needsG hI hf [c] h.1
      exact ⟨hc, pickG_side hI hf hcB hc h.2.1, pickG_side hI hf hcB hc h.2.2⟩
  · generalize evOp B Φ o (fun x => (rd env x).strip) M = q
    obtain ⟨vc, v, e, M'⟩ := q
    refine ⟨_, rfl, fun h => ?_⟩
    simp only [allP_ap] at h ⊢
    exact ⟨needsG hI hf _ h.1, h.2⟩

theorem gok_evs : ∀ (e : List Ev) (v : V), gokB v = true → v.evs e = v := by
  intro e
  induction e with
  | nil => intro v _; rfl
  | cons x e ih =>
    intro v h
    have key : ∀ v : V, gokB v = true → v.ev x = v := by
      intro v
      induction v with
      | gd j w P v ihv => intro h; simp only [gokB] at h; simp only [V.ev, ihv h]
      | d t y => intro _; rfl
      | _ => intro h; simp [gokB] at h
    simp only [V.evs, key v h]
    exact ih v h

theorem wIn_cons {d : Nat} {o : Oper} {r : List Oper} (h : wIn d (o :: r) = false) : o.dst ≠ some d ∧ wIn d r = false := by
  simp only [wIn] at h
  cases hs : sameS d o.dst with
  | true => rw [hs] at h; cases h
  | false =>
    rw [hs] at h
    refine ⟨fun he => ?_, h⟩
    rw [he, sameS_self] at hs
    cases hs

theorem wIn_app {d : Nat} : ∀ {a b : List Oper}, wIn d (a ++ b) = false ↔ wIn d a = false ∧ wIn d b = false
  | [], b => by simp [wIn]
  | o :: a, b => by
    simp only [List.cons_append, wIn]
    cases sameS d o.dst with
    | true => simp
    | false => simpa using wIn_app

theorem gt_wr' (d : Option Nat) (v : V) (env : Env) (t : Nat) : gt (wr d v env) t = if d = some t then v else gt env t := gt_wr d v env t

theorem isGd_expl : ∀ (t : T) (x : t.den), isGd (expl t x) = false := by intro t x; cases t <;> rfl
theorem isGd_ref (k : Nat) (π : Path) (e : Ev) : isGd (e.ref k π) = false := by
  cases e with
  | fz r ob =>
    simp only [Ev.ref]
    cases Nat.beq k r with
    | false => rfl
    | true =>
      simp only [cond_true]
      split
      · exact isGd_expl _ _
      · rfl
  | cut r o o' => simp only [Ev.ref]; cases Nat.beq k r <;> cases nilP π <;> rfl
  | mv r k' => simp only [Ev.ref]; cases Nat.beq k r <;> rfl
  | kl r => simp only [Ev.ref]; cases Nat.beq k r <;> rfl
theorem isGd_ad (k : Nat) (π : Path) (e : Ev) : isGd (e.ad k π) = false := by
  cases e with
  | fz r ob =>
    simp only [Ev.ad]
    cases Nat.beq k r with
    | false => rfl
    | true =>
      simp only [cond_true]
      split <;> rfl
  | cut r o o' => simp only [Ev.ad]; cases Nat.beq k r <;> cases sameO (stat π o) (stat π o') <;> rfl
  | mv r k' => simp only [Ev.ad]; cases Nat.beq k r <;> rfl
  | kl r => simp only [Ev.ad]; cases Nat.beq k r <;> rfl
theorem inv_plain {all : List Oper} {o : Oper} {rest : List Oper} {env env' : Env} {v : V} (hI : InvG all (o :: rest) env) (hv : isGd v = false)
    (he : ∃ e, ∀ t, gt env' t = (gt env t).evs e) : InvG all rest (wr o.dst v env') := by
  obtain ⟨e, he⟩ := he
  intro t j w P x hx
  rw [gt_wr'] at hx
  split at hx
  · subst hx; cases hv
  · rw [he] at hx
    have hsh : ∃ y, gt env t = .gd j w P y := by
      clear he
      generalize gt env t = q at hx
      induction e generalizing q with
      | nil => exact ⟨x, hx⟩
      | cons z e ih =>
        simp only [V.evs] at hx
        obtain ⟨y, hy⟩ := ih _ hx
        cases q with
        | gd j' w' P' v' => simp only [V.ev, V.gd.injEq] at hy; obtain ⟨rfl, rfl, rfl, _⟩ := hy; exact ⟨v', rfl⟩
        | ref k π =>
          have := isGd_ref k π z
          simp only [V.ev] at hy
          rw [hy] at this; cases this
        | ad k π =>
          have := isGd_ad k π z
          simp only [V.ev] at hy
          rw [hy] at this; cases this
        | _ => simp [V.ev] at hy
    obtain ⟨y, hy⟩ := hsh
    obtain ⟨d, h1, h2, h3, h4⟩ := hI t j w P y hy
    obtain ⟨h5, h6⟩ := wIn_cons h4
    have h7 : gt (wr o.dst v env') d = gt env d := by rw [gt_wr', if_neg h5, he, gok_evs e _ h3]
    exact ⟨d, h1, h7 ▸ h2, h7 ▸ h3, h6⟩

theorem inv_guard {all : List Oper} {o : Oper} {rest : List Oper} {env : Env} {j dj : Nat} {w : Bool} {v : V} (hI : InvG all (o :: rest) env) (hd : dstOf all j = some dj) (hg : gokB (gt env dj) = true) (hw : wIn dj (o :: rest) = false) :
    InvG all rest (wr o.dst (.gd j w (gc (gt env dj) w) v) env) := by
  intro t i w' P x hx
  rw [gt_wr'] at hx
  split at hx
  · cases hx
    obtain ⟨h5, h6⟩ := wIn_cons hw
    have h7 : ∀ q, gt (wr o.dst q env) dj = gt env dj := fun q => by rw [gt_wr', if_neg h5]
    exact ⟨dj, hd, by rw [h7], by rw [h7]; exact hg, h6⟩
  · obtain ⟨d, h1, h2, h3, h4⟩ := hI t i w' P x hx
    obtain ⟨h5, h6⟩ := wIn_cons h4
    have h7 : ∀ q, gt (wr o.dst q env) d = gt env d := fun q => by rw [gt_wr', if_neg h5]
    exact ⟨d, h1, by rw [h7]; exact h2, by rw [h7]; exact h3, h6⟩

theorem fs_nil {all : List Oper} {env : Env} : Fs all env [] := fun _ _ h => by cases h

theorem twG_tw {all : List Oper} {K : Env → Mem → Prop} : ∀ (ops : List Oper) (env : Env) (M : Mem), InvG all ops env → twG B Φ all ops env M K → tw B Φ all ops env M K
  | [], _, _, _, h => h
  | o :: rest, env, M, hI, h => by
    simp only [twG] at h
    simp only [tw]
    cases hgd : o.guard with
    | none =>
      rw [hgd] at h
      obtain ⟨vc, he, hvc⟩ := evG_ok (B := B) (Φ := Φ) hI fs_nil o M
      rw [he]
      generalize evG B Φ all [] o env M = q at h hvc ⊢
      obtain ⟨vc', v, e, M'⟩ := q
      simp only at h hvc ⊢
      cases hv : isGd v with
      | true => rw [hv] at h; exact h.elim
      | false =>
        rw [hv] at h
        simp only [cond_false, conj_iff] at h
        rw [conj_iff]
        exact ⟨hvc h.1, twG_tw rest _ _ (inv_plain hI hv ⟨e, fun t => gt_evEs t e env⟩) h.2⟩
    | some g =>
      obtain ⟨j, want⟩ := g
      rw [hgd] at h
      simp only at h ⊢
      cases hd : dstOf all j with
      | none => rw [hd] at h; exact h.elim
      | some dj =>
        rw [hd] at h
        simp only at h ⊢
        by_cases hG : gc (gt env dj) want
        · obtain ⟨vc, he, hvc⟩ := evG_ok (B := B) (Φ := Φ) hI (chain_ok hI 8 j want dj hd hG) o M
          rw [he]
          generalize evG B Φ all (chainG all env 8 j want) o env M = q at h hvc ⊢
          obtain ⟨vc', v, e, M'⟩ := q
          simp only [allT] at h hvc ⊢
          cases h1 : gokB (gt env dj) <;> rw [h1] at h <;> try exact h.elim
          cases h2 : quiet o <;> rw [h2] at h <;> try exact h.elim
          cases h3 : fresh M e <;> rw [h3] at h <;> try exact h.elim
          cases h4 : wIn dj (o :: rest) <;> rw [h4] at h <;> try exact h.elim
          simp only [neg, cond_true, cond_false, imp_iff] at h ⊢
          exact ⟨fun g => hvc (h.1 g), twG_tw rest _ _ (inv_guard hI hd h1 h4) h.2⟩
        · have hev : (evR B Φ o env M).av = (evG B Φ all (chainG all env 8 j want) o env M).av ∧ (evR B Φ o env M).ev = (evG B Φ all (chainG all env 8 j want) o env M).ev ∧ (evR B Φ o env M).M = (evG B Φ all (chainG all env 8 j want) o env M).M := by
            unfold evR evG
            split
            · simp only [evPick, pickG, pureR]
              cases allT [_, _, _] <;> simp [bad]
            · exact ⟨rfl, rfl, rfl⟩
          generalize evG B Φ all (chainG all env 8 j want) o env M = q at h hev ⊢
          generalize evR B Φ o env M = q2 at hev ⊢
          obtain ⟨vc', v, e, M'⟩ := q
          obtain ⟨vc2, v2, e2, M2⟩ := q2
          simp only at hev
          obtain ⟨rfl, rfl, rfl⟩ := hev
          simp only [allT] at h ⊢
          cases h1 : gokB (gt env dj) <;> rw [h1] at h <;> try exact h.elim
          cases h2 : quiet o <;> rw [h2] at h <;> try exact h.elim
          cases h3 : fresh M e2 <;> rw [h3] at h <;> try exact h.elim
          cases h4 : wIn dj (o :: rest) <;> rw [h4] at h <;> try exact h.elim
          simp only [neg, cond_true, cond_false, imp_iff] at h ⊢
          exact ⟨fun g => absurd g hG, twG_tw rest _ _ (inv_guard hI hd h1 h4) h.2⟩

theorem avF_gd {M M' : Mem} (v : V) : isGd (avF M M' v) = false := by
  cases v with
  | ref k π =>
    simp only [avF]
    split
    · rfl
    · split
      · exact isGd_expl _ _
      · rfl
  | ad k π =>
    simp only [avF]
    split
    · rfl
    · split <;> rfl
  | _ => rfl

theorem dwG_dw {all tl : List Oper} {K K' : Env → Prop} (hK : ∀ env, InvG all tl env → K' env → K env) : ∀ (ops : List Oper) (env : Env) (M : Mem), InvG all (ops ++ tl) env → dwG B Φ all tl ops env M K' → dw B Φ all ops env M K
  | [], env, _, hI, h => hK env hI h
  | o :: rest, env, M, hI, h => by
    simp only [dwG] at h
    simp only [dw]
    cases hgd : o.guard with
    | none =>
      rw [hgd] at h
      obtain ⟨vc, he, hvc⟩ := evG_ok (B := B) (Φ := Φ) hI fs_nil o M
      rw [he]
      generalize evG B Φ all [] o env M = q at h hvc ⊢
      obtain ⟨vc', v, e, M'⟩ := q
      simp only [allT] at h hvc ⊢
      cases h2 : quiet o <;> rw [h2] at h <;> try exact h.elim
      cases h3 : fresh M e <;> rw [h3] at h <;> try exact h.elim
      simp only [cond_true, conj_iff] at h
      simp only [cond_true]
      rw [conj_iff]
      exact ⟨hvc h.1, dwG_dw hK rest _ _ (inv_plain hI (avF_gd v) ⟨[], fun t => rfl⟩) h.2⟩
    | some g =>
      obtain ⟨j, want⟩ := g
      rw [hgd] at h
      simp only at h ⊢
      cases hd : dstOf all j with
      | none => rw [hd] at h; exact h.elim
      | some dj =>
        rw [hd] at h
        simp only at h ⊢
        have hev : (evR B Φ o env M).av = (evG B Φ all (chainG all env 8 j want) o env M).av ∧ (evR B Φ o env M).ev = (evG B Φ all (chainG all env 8 j want) o env M).ev ∧ (evR B Φ o env M).M = (evG B Φ all (chainG all env 8 j want) o env M).M ∧
            (gc (gt env dj) want → allP (evG B Φ all (chainG all env 8 j want) o env M).vc → allP (evR B Φ o env M).vc) := by
          refine ⟨?_, ?_, ?_, fun hG => ?_⟩
          · unfold evR evG
            split
            · simp only [evPick, pickG, pureR]
              cases allT [_, _, _] <;> rfl
            · rfl
          · unfold evR evG
            split <;> rfl
          · unfold evR evG
            split <;> rfl
          · obtain ⟨vc, he, hvc⟩ := evG_ok (B := B) (Φ := Φ) hI (chain_ok hI 8 j want dj hd hG) o M
            rw [he]; exact hvc
        generalize evG B Φ all (chainG all env 8 j want) o env M = q at h hev ⊢
        generalize evR B Φ o env M = q2 at hev ⊢
        obtain ⟨vc', v, e, M'⟩ := q
        obtain ⟨vc2, v2, e2, M2⟩ := q2
        simp only at hev
        obtain ⟨rfl, rfl, rfl, hvc⟩ := hev
        simp only [allT] at h ⊢
        cases h1 : gokB (gt env dj) <;> rw [h1] at h <;> try exact h.elim
        cases h2 : quiet o <;> rw [h2] at h <;> try exact h.elim
        cases h3 : fresh M e2 <;> rw [h3] at h <;> try exact h.elim
        cases h4 : wIn dj (o :: rest) <;> rw [h4] at h <;> try exact h.elim
        cases h5 : wIn dj tl <;> rw [h5] at h <;> try exact h.elim
        simp only [neg, cond_true, cond_false, imp_iff] at h ⊢
        have h6 : wIn dj (o :: (rest ++ tl)) = false := by
          have := (wIn_app (a := o :: rest) (b := tl)).2 ⟨h4, h5⟩
          simpa using this
        exact ⟨fun g => hvc g (h.1 g), dwG_dw hK rest _ _ (inv_guard hI hd h1 h6) h.2⟩

theorem nogd_inv {all rest : List Oper} : ∀ {env : Env}, nogd env = true → InvG all rest env := by
  intro env h t j w P v hx
  exfalso
  induction env with
  | nil => simp [gt] at hx
  | cons p env ih =>
    obtain ⟨k, u0⟩ := p
    simp only [nogd] at h
    cases hu : isGd u0 with
    | true => rw [hu] at h; cases h
    | false =>
      rw [hu] at h
      simp only [gt] at hx
      cases hb : Nat.beq k t with
      | true => rw [hb] at hx; simp only [cond_true] at hx; subst hx; cases hu
      | false => rw [hb] at hx; exact ih h hx

end Go.Bm

/- The typed machine: drawn regions that make boxes and fill them. -/
namespace Go.Bm
open Go.RowKit

variable {B : Tab} {Φ : FuncId → Option Ct}

/-! ### data does not look at memory -/

theorem dat_ev (e : Ev) : ∀ v : V, isDat v = true → v.ev e = v
  | .d _ _, _ => rfl
  | .nl, _ => rfl
  | .np, _ => rfl
  | .u, _ => rfl
  | .p a b, h => by
    simp only [isDat, nob_eq, Bool.and_eq_true] at h
    simp only [V.ev, dat_ev e a h.1, dat_ev e b h.2]
  | .ag v, h => by simp only [isDat] at h; simp only [V.ev, dat_ev e v h]
  | .fn f v, h => by simp only [isDat] at h; simp only [V.ev, dat_ev e v h]
  | .bx v, h => by simp only [isDat] at h; simp only [V.ev, dat_ev e v h]
  | .any, h => by cases h
  | .ref _ _, h => by cases h
  | .ad _ _, h => by cases h
  | .tup _, h => by cases h
  | .gd _ _ _ _, h => by cases h
  | .ifc _ _, h => by cases h
theorem size_dat (M : Mem) : ∀ v : V, isDat v = true → v.size M = v.size []
  | .d _ _, _ => rfl
  | .nl, _ => rfl
  | .np, _ => rfl
  | .u, _ => rfl
  | .p a b, h => by
    simp only [isDat, nob_eq, Bool.and_eq_true] at h
    simp only [V.size, size_dat M a h.1, size_dat M b h.2]
  | .ag v, h => rfl
  | .fn f v, h => rfl
  | .bx v, h => rfl
  | .any, h => by cases h
  | .ref _ _, h => by cases h
  | .ad _ _, h => by cases h
  | .tup _, h => by cases h
  | .gd _ _ _ _, h => by cases h
  | .ifc _ _, h => by cases h
theorem sizeIs_dat (M : Mem) (v : V) (n : Nat) (h : isDat v = true) : sizeIs M v n = sizeIs [] v n := by simp only [sizeIs, size_dat M v h]
theorem subV_dat (M : Mem) : ∀ (π : Path) (v : V), isDat v = true → subV M π v = subV [] π v ∧ ∀ n x, subV [] π v = some (n, x) → isDat x = true
  | [], v, h => by
    simp only [subV, Option.some.injEq, Prod.mk.injEq]
    exact ⟨trivial, fun n x e => e.2 ▸ h⟩
  | .l :: π, .p a b, h => by
    simp only [isDat, nob_eq, Bool.and_eq_true] at h
    simp only [subV]
    exact subV_dat M π a h.1
  | .r :: π, .p a b, h => by
    simp only [isDat, nob_eq, Bool.and_eq_true] at h
    obtain ⟨e1, e2⟩ := subV_dat M π b h.2
    simp only [subV, e1, size_dat M a h.1]
    refine ⟨trivial, fun n x hx => ?_⟩
    split at hx
    · rename_i m n' x' _ h2; cases hx; exact e2 _ _ h2
    · cases hx
  | .de :: π, .p a b, _ => by simp [subV]
  | .ix _ :: π, .p a b, _ => by simp [subV]
  | .l :: π, .d _ _, _ => by simp [subV]
  | .r :: π, .d _ _, _ => by simp [subV]
  | .de :: π, .d _ _, _ => by simp [subV]
  | .ix _ :: π, .d _ _, _ => by simp [subV]
  | _ :: π, .nl, _ => by simp [subV]
  | _ :: π, .np, _ => by simp [subV]
  | _ :: π, .u, _ => by simp [subV]
  | _ :: π, .ag _, _ => by simp [subV]
  | _ :: π, .fn _ _, _ => by simp [subV]
  | _ :: π, .bx _, _ => by simp [subV]
  | _ :: _, .any, h => by cases h
  | _ :: _, .ref _ _, h => by cases h
  | _ :: _, .ad _ _, h => by cases h
  | _ :: _, .tup _, h => by cases h
  | _ :: _, .gd _ _ _ _, h => by cases h
  | _ :: _, .ifc _ _, h => by cases h

theorem subA_dat (M : Mem) (x : V) (π : Path) (off : Nat) (h : isDat x = true) : subA M x π off = subA [] x π off := by
  cases x <;> first | rfl | (simp only [isDat] at h; simp only [subA, (subV_dat M π _ h).1]; done) | (cases h; done) | (rename_i t x; cases t <;> rfl)
theorem evFldA_dat (τ : Ty) (M : Mem) (x : V) (i : Nat) (h : isDat x = true) : evFldA τ M x i = evFldA τ [] x i := by
  simp only [evFldA, subA_dat M x _ _ h]
theorem evFld_dat (τ : Ty) (M : Mem) (x : V) (i : Nat) (h : isDat x = true) : evFld B τ M x i = evFld B τ [] x i := by
  unfold evFld
  split
  · rename_i off ft _ v _
    simp only [isDat] at h
    obtain ⟨e1, e2⟩ := subV_dat M (fpath (len τ.fld) i) v h
    rw [e1]
    cases hs : subV [] (fpath (len τ.fld) i) v with
    | none => rfl
    | some q => obtain ⟨n, w⟩ := q; simp only [sizeIs_dat M w _ (e2 _ _ hs)]
  · rfl
theorem evIxA_dat (τ : Ty) (M : Mem) (x i : V) (h : isDat x = true) : evIxA B τ M x i = evIxA B τ [] x i := by
  unfold evIxA
  split
  · cases x <;> first | rfl | (cases h; done) | (rename_i t x; cases t <;> rfl)
  · rfl
theorem evLoad_dat (τ : Ty) (M : Mem) (x : V) (h : isDat x = true) : evLoad τ M x = evLoad τ [] x := by
  cases x <;> first | rfl | (simp only [isDat] at h; simp only [evLoad, sizeIs_dat M _ _ h]; done) | (cases h; done) | (rename_i t x; cases t <;> rfl)

theorem dat_strip {v : V} (h : isDat v = true) : v.strip = v := by cases v <;> first | rfl | cases h
theorem datOps_mem {env : Env} : ∀ {l : List Operand}, datOps env l = true → ∀ x ∈ l, isDat (rd env x) = true
  | [], _, x, h => by cases h
  | y :: l, hd, x, h => by
    simp only [datOps, nob_eq, Bool.and_eq_true] at hd
    cases h with
    | head => exact hd.1
    | tail _ h => exact datOps_mem hd.2 x h
theorem needs_dat {f : Operand → V} : ∀ (l : List Operand), (∀ x ∈ l, isDat (f x) = true) → needs f l = []
  | [], _ => rfl
  | x :: r, h => by
    have hx := h x (by simp)
    simp only [needs]
    split
    · rename_i e; rw [e] at hx; cases hx
    · exact needs_dat r fun y hy => h y (by simp [hy])

theorem pure_dat {o : Oper} {env : Env} (M : Mem) (hk : pureK o.op = true) (hd : datOps env (opds o.op) = true) {vc : List Prop} {v : V} (h : evR B Φ o env [] = ⟨vc, v, [], []⟩) :
    evR B Φ o env M = ⟨vc, v, [], M⟩ := by
  have hm := datOps_mem hd
  obtain ⟨dst, op, ty', pos, after, guard⟩ := o
  cases op <;> simp only [pureK, Bool.false_eq_true] at hk <;> simp only [opds] at hm <;> simp only [evR, evOp, pureR] at h ⊢ <;> cases h
  case load t x =>
    have hx := hm x (by simp)
    simp only [dat_strip hx, evLoad_dat _ M _ hx]
  case fieldAddr t x i =>
    have hx := hm x (by simp)
    simp only [dat_strip hx, evFldA_dat _ M _ _ hx]
  case field t x i =>
    have hx := hm x (by simp)
    simp only [dat_strip hx, evFld_dat _ M _ _ hx]
  case indexAddr t x i =>
    have hx := hm x (by simp)
    simp only [dat_strip hx, evIxA_dat _ M _ _ hx]
  all_goals rfl

theorem conv_dat (k : Nat) (M M' : Mem) : ∀ (t : T) (v : V), isDat v = true → ∀ q e X, conv k t v M' = some (q, e, X) → e = [] ∧ X = M' ∧ conv k t v M = some (q, [], M) := by
  intro t v
  induction v generalizing t with
  | p a b iha ihb =>
    intro h q e X hc
    simp only [isDat, nob_eq, Bool.and_eq_true] at h
    cases t <;> simp only [conv] at hc <;> try cases hc
    rename_i t1 t2
    cases h1 : conv k t1 a M' with
    | none => rw [h1] at hc; cases hc
    | some r =>
      obtain ⟨q1, e1, X1⟩ := r
      rw [h1] at hc
      obtain ⟨rfl, hX1, i1⟩ := iha _ h.1 _ _ _ h1
      rw [hX1] at hc
      simp only [V.evs] at hc
      cases h2 : conv k t2 b M' with
      | none => rw [h2] at hc; cases hc
      | some r2 =>
        obtain ⟨q2, e2, X2⟩ := r2
        rw [h2] at hc
        obtain ⟨rfl, hX2, i2⟩ := ihb _ h.2 _ _ _ h2
        cases hc
        refine ⟨rfl, hX2, ?_⟩
        simp only [conv, i1, V.evs, i2, ap]
  | u => intro _ q e X hc; cases t <;> simp only [conv] at hc ⊢ <;> cases hc <;> exact ⟨rfl, rfl, rfl⟩
  | d t' x => intro _ q e X hc; cases t <;> simp only [conv] at hc ⊢ <;> cases hc <;> exact ⟨rfl, rfl, rfl⟩
  | nl => intro _ q e X hc; cases t <;> simp only [conv] at hc ⊢ <;> cases hc <;> exact ⟨rfl, rfl, rfl⟩
  | np => intro _ q e X hc; cases t <;> simp only [conv] at hc ⊢ <;> cases hc <;> exact ⟨rfl, rfl, rfl⟩
  | fn f v ih =>
    intro h q e X hc
    cases v <;> cases t <;> simp only [conv] at hc ⊢ <;> cases hc <;> exact ⟨rfl, rfl, rfl⟩
  | ag v ih => intro _ q e X hc; cases t <;> simp only [conv] at hc <;> cases hc
  | bx v ih => intro _ q e X hc; cases t <;> simp only [conv] at hc <;> cases hc
  | _ => intro h; cases h

theorem cells_dat {v : V} (h : isDat v = true) : isDat v.cells = true := by cases v <;> exact h

theorem go_one (d : Nat) (ob : Ob) : go [(d, ob)] d = some ob := by rw [go_cons, if_pos rfl]

theorem store_dat {t : TypeId} {d : Nat} {y : V} {ob ob' : Ob} {M : Mem} (hy : isDat y = true) (hg : go M d = some ob) (h : one1 d (evStore B t (.ad d [.de]) y [(d, ob)]) = some ob') :
    ∃ v e, evStore B t (.ad d [.de]) y M = ⟨[], v, [e], put d ob' M⟩ ∧ ∃ o o', e = .cut d o o' ∧ sameO (stat [.de] o) (stat [.de] o') = true := by
  have hcy := cells_dat hy
  simp only [evStore, go_one, hg, getM] at h ⊢
  cases hq : get [.de] ob.o ob.x with
  | none => rw [hq] at h; cases h
  | some q =>
    rw [hq] at h
    simp only [sizeIs_dat M y.cells _ hcy, sizeIs_dat [(d, ob)] y.cells _ hcy] at h ⊢
    cases hb : allT [(B.τ t).ok, sizeIs [] y.cells (B.τ t).size, beqN q.o.strip.size (B.τ t).size, neg (isZ (B.τ t).size)] with
    | false => rw [hb] at h; cases h
    | true =>
      rw [hb] at h
      simp only [cond_true, hasIx, cond_false] at h ⊢
      cases hc : conv d (B.σ t) y.cells [] with
      | none =>
        exfalso
        cases hc' : conv d (B.σ t) y.cells [(d, ob)] with
        | none => rw [hc'] at h; cases h
        | some r =>
          obtain ⟨q', e', X'⟩ := r
          obtain ⟨_, _, c3⟩ := conv_dat d [] [(d, ob)] _ _ hcy _ _ _ hc'
          rw [c3] at hc; cases hc
      | some r =>
        obtain ⟨z, e, X⟩ := r
        obtain ⟨rfl, rfl, c1⟩ := conv_dat d M [] _ _ hcy _ _ _ hc
        obtain ⟨_, _, c2⟩ := conv_dat d [(d, ob)] [] _ _ hcy _ _ _ hc
        rw [c2] at h
        rw [c1]
        simp only [go_one, hg] at h ⊢
        cases hs : set [.de] ob.o ob.x z with
        | none => rw [hs] at h; cases h
        | some ob2 =>
          rw [hs] at h
          simp only at h ⊢
          cases hz : beqN z.o.strip.size (B.τ t).size with
          | false => rw [hz] at h; cases h
          | true =>
            rw [hz] at h
            simp only [cond_true, ap] at h ⊢
            have hp : put d ob2 [(d, ob)] = [(d, ob2)] := by simp only [put, beq_cond, if_true]
            rw [hp] at h
            simp only [one1, Nat.beq_refl, cond_true, Option.some.injEq] at h
            subst h
            refine ⟨_, _, rfl, _, _, rfl, ?_⟩
            obtain ⟨oo, xx⟩ := ob
            cases oo <;> simp only [set] at hs <;> cases hs
            rfl

/-! ### the steps of the text -/

def bstep (B : Tab) (Φ : FuncId → Option Ct) (o : Oper) (e : Env) (x : Mem) (e' : Env) (x' : Mem) : Prop :=
  o.guard = none ∧ (
    (∃ ty d, o.op = .alloc ty ∧ o.dst = some d ∧ allT [(B.τ ty).ok, B.z ty] = true ∧ go x d = none ∧ e' = (d, .ad d [.de]) :: e ∧ x' = (d, zeroB B ty) :: x) ∨
    (∃ t d y ob ob', o.op = .store t (.tmp d) y ∧ o.dst = none ∧ go x d = some ob ∧ isDat (rd e y) = true ∧ isAdd d (gt e d) = true ∧ one1 d (evStore B t (.ad d [.de]) (rd e y) [(d, ob)]) = some ob' ∧ e' = e ∧ x' = put d ob' x) ∨
    (∃ d vc v, o.dst = some d ∧ pureK o.op = true ∧ datOps e (opds o.op) = true ∧ evR B Φ o e [] = ⟨vc, v, [], []⟩ ∧ isDat v = true ∧ allP vc ∧ e' = (d, v) :: e ∧ x' = x))

theorem bx_pure {o : Oper} {env : Env} {k : List Prop → V → Prop} (h : bxP B Φ o env k) : ∃ vc v, pureK o.op = true ∧ datOps env (opds o.op) = true ∧ evR B Φ o env [] = ⟨vc, v, [], []⟩ ∧ isDat v = true ∧ k vc v := by
  unfold bxP at h
  cases hb : nob (pureK o.op) (datOps env (opds o.op)) with
  | false => rw [hb] at h; exact h.elim
  | true =>
    rw [hb] at h
    simp only [nob_eq, Bool.and_eq_true] at hb
    simp only [cond_true] at h
    split at h
    · rename_i vc v hp
      refine ⟨vc, v, hb.1, hb.2, ?_⟩
      generalize evR B Φ o env [] = q at hp
      unfold pure1 at hp
      split at hp
      · rename_i vc' v'
        cases hd : isDat v' with
        | false => rw [hd] at hp; cases hp
        | true => rw [hd] at hp; cases hp; exact ⟨rfl, hd, h⟩
      · cases hp
    · exact h.elim

theorem bx_steps : ∀ (ops : List Oper) (e : Env) (x : Mem) (K : Env → Mem → Prop), bx B Φ ops e x K →
    ∃ (E : Nat → Env) (X : Nat → Mem), E 0 = e ∧ X 0 = x ∧ (∀ j o, ops[j]? = some o → bstep B Φ o (E j) (X j) (E (j + 1)) (X (j + 1))) ∧ K (E ops.length) (X ops.length)
  | [], e, x, K, h => ⟨fun _ => e, fun _ => x, rfl, rfl, fun j o h => by simp at h, h⟩
  | o :: r, e, x, K, h => by
    have key : ∃ e' x', bstep B Φ o e x e' x' ∧ bx B Φ r e' x' K := by
      simp only [bx] at h
      split at h
      · rename_i ty d hg ho hd
        unfold bxA at h
        cases hb : allT [(B.τ ty).ok, B.z ty, isN (go x d)] with
        | false => rw [hb] at h; exact h.elim
        | true =>
          rw [hb] at h
          simp only [allT_cons, allT_nil, Bool.and_true, Bool.and_eq_true] at hb
          refine ⟨_, _, ⟨hg, .inl ⟨ty, d, ho, hd, by simp only [allT_cons, allT_nil, hb.1, hb.2.1, Bool.and_self], ?_, rfl, rfl⟩⟩, h⟩
          cases hx : go x d with
          | none => rfl
          | some _ => rw [hx] at hb; exact absurd hb.2.2 (by simp [isN])
      · rename_i t d y hg ho hd
        unfold bxS at h
        split at h
        · rename_i ob hx
          cases hb : nob (isDat (rd e y)) (isAdd d (gt e d)) with
          | false => rw [hb] at h; exact h.elim
          | true =>
            rw [hb] at h
            simp only [nob_eq, Bool.and_eq_true] at hb
            simp only [cond_true] at h
            split at h
            · rename_i ob' h1
              exact ⟨_, _, ⟨hg, .inr (.inl ⟨t, d, y, ob, ob', ho, hd, hx, hb.1, hb.2, h1, rfl, rfl⟩)⟩, h⟩
            · exact h.elim
        · exact h.elim
      · rename_i d hg hd _
        obtain ⟨vc, v, h1, h2, h3, h4, h5⟩ := bx_pure h
        rw [conj_iff] at h5
        exact ⟨_, _, ⟨hg, .inr (.inr ⟨d, vc, v, hd, h1, h2, h3, h4, h5.1, rfl, rfl⟩)⟩, h5.2⟩
      · exact h.elim
    obtain ⟨e', x', h1, h2⟩ := key
    obtain ⟨E, X, i1, i2, i3, i4⟩ := bx_steps r e' x' K h2
    refine ⟨fun j => match j with | 0 => e | j + 1 => E j, fun j => match j with | 0 => x | j + 1 => X j, rfl, rfl, fun j o' hj => ?_, by simpa using i4⟩
    cases j with
    | zero =>
      simp only [List.getElem?_cons_zero, Option.some.injEq] at hj
      subst hj
      simp only
      rw [i1, i2]
      exact h1
    | succ j =>
      simp only [List.getElem?_cons_succ] at hj
      exact i3 j o' hj

theorem inN_mem {k : Nat} : ∀ {l : List Nat}, k ∈ l → inN k l = true
  | j :: r, h => by
    simp only [inN]
    cases h with
    | head => rw [Nat.beq_refl]; rfl
    | tail _ h => cases Nat.beq j k <;> simp [inN_mem h]
theorem tgts_mem {k : Nat} : ∀ {l : List Oper} {s : Nat} {o : Oper}, l[s]? = some o → tgt o = some k → k ∈ tgts l
  | [], s, o, h, _ => by simp at h
  | x :: r, 0, o, h, ht => by
    simp only [List.getElem?_cons_zero, Option.some.injEq] at h
    subst h
    simp [tgts, ht]
  | x :: r, s + 1, o, h, ht => by
    simp only [List.getElem?_cons_succ] at h
    have := tgts_mem h ht
    simp only [tgts]
    split
    · exact List.mem_cons_of_mem _ this
    · exact this
theorem tgts_uniq {k : Nat} : ∀ {l : List Oper}, nodupN (tgts l) = true → ∀ {s s' : Nat} {o o' : Oper}, l[s]? = some o → l[s']? = some o' → tgt o = some k → tgt o' = some k → s = s'
  | [], _, s, _, o, _, h, _, _, _ => by simp at h
  | x :: r, hn, s, s', o, o', h, h', ht, ht' => by
    have hr : nodupN (tgts r) = true := by
      simp only [tgts] at hn
      split at hn
      · rename_i d0 _
        simp only [nodupN] at hn
        cases hi : inN d0 (tgts r) with
        | true => rw [hi] at hn; cases hn
        | false => rw [hi] at hn; exact hn
      · exact hn
    have hx : tgt x = some k → ∀ (s : Nat) (o : Oper), r[s]? = some o → tgt o = some k → False := fun hx s o ho hto => by
      have := inN_mem (tgts_mem ho hto)
      simp only [tgts, hx, nodupN, this, cond_true] at hn
      cases hn
    cases s with
    | zero =>
      simp only [List.getElem?_cons_zero, Option.some.injEq] at h
      subst h
      cases s' with
      | zero => rfl
      | succ s' => exact (hx ht s' o' (by simpa using h') ht').elim
    | succ s =>
      simp only [List.getElem?_cons_succ] at h
      cases s' with
      | zero =>
        simp only [List.getElem?_cons_zero, Option.some.injEq] at h'
        subst h'
        exact (hx ht' s o h ht).elim
      | succ s' => rw [tgts_uniq hr h (by simpa using h') ht ht']

theorem alloc_mem {k : Nat} {ty : TypeId} : ∀ {l : List Oper} {s : Nat} {o : Oper}, l[s]? = some o → o.op = .alloc ty → o.dst = some k → k ∈ allocIds l
  | [], s, o, h, _, _ => by simp at h
  | x :: r, 0, o, h, h1, h2 => by
    simp only [List.getElem?_cons_zero, Option.some.injEq] at h
    subst h
    simp [allocIds, h1, h2]
  | x :: r, s + 1, o, h, h1, h2 => by
    simp only [List.getElem?_cons_succ] at h
    have := alloc_mem h h1 h2
    simp only [allocIds]
    split
    · exact List.mem_cons_of_mem _ this
    · exact this

theorem kl_idem (k : Nat) : ∀ v : V, (v.ev (.kl k)).ev (.kl k) = v.ev (.kl k)
  | .ref r π => by
    simp only [V.ev, Ev.ref]
    cases h : Nat.beq r k with
    | true => rfl
    | false => simp only [cond_false, V.ev, Ev.ref, h]
  | .ad r π => by
    simp only [V.ev, Ev.ad]
    cases h : Nat.beq r k with
    | true => rfl
    | false => simp only [cond_false, V.ev, Ev.ad, h]
  | .p a b => by simp only [V.ev, kl_idem k a, kl_idem k b]
  | .ag v => by simp only [V.ev, kl_idem k v]
  | .tup v => by simp only [V.ev, kl_idem k v]
  | .gd _ _ _ v => by simp only [V.ev, kl_idem k v]
  | .fn _ v => by simp only [V.ev, kl_idem k v]
  | .ifc _ v => by simp only [V.ev, kl_idem k v]
  | .bx v => by simp only [V.ev, kl_idem k v]
  | .any => rfl
  | .nl => rfl
  | .np => rfl
  | .u => rfl
  | .d _ _ => rfl
theorem kl_comm (k j : Nat) : ∀ v : V, (v.ev (.kl k)).ev (.kl j) = (v.ev (.kl j)).ev (.kl k)
  | .ref r π => by
    simp only [V.ev, Ev.ref]
    cases h : Nat.beq r k <;> cases h' : Nat.beq r j <;> simp only [cond_false, cond_true, V.ev, Ev.ref, h, h']
  | .ad r π => by
    simp only [V.ev, Ev.ad]
    cases h : Nat.beq r k <;> cases h' : Nat.beq r j <;> simp only [cond_false, cond_true, V.ev, Ev.ad, h, h']
  | .p a b => by simp only [V.ev, kl_comm k j a, kl_comm k j b]
  | .ag v => by simp only [V.ev, kl_comm k j v]
  | .tup v => by simp only [V.ev, kl_comm k j v]
  | .gd _ _ _ v => by simp only [V.ev, kl_comm k j v]
  | .fn _ v => by simp only [V.ev, kl_comm k j v]
  | .ifc _ v => by simp only [V.ev, kl_comm k j v]
  | .bx v => by simp only [V.ev, kl_comm k j v]
  | .any => rfl
  | .nl => rfl
  | .np => rfl
  | .u => rfl
  | .d _ _ => rfl
/-- what a tree's end leaves, its cuts leave too -/
theorem kl_cut {k : Nat} {o o' : O} : ∀ v : V, v.ev (.kl k) = v → v.ev (.cut k o o') = v
  | .ref r π, h => by
    simp only [V.ev, Ev.ref] at h ⊢
    cases hb : Nat.beq r k with
    | true => rw [hb] at h; cases h
    | false => rfl
  | .ad r π, h => by
    simp only [V.ev, Ev.ad] at h ⊢
    cases hb : Nat.beq r k with
    | true => rw [hb] at h; cases h
    | false => rfl
  | .p a b, h => by
    simp only [V.ev, V.p.injEq] at h ⊢
    exact ⟨kl_cut a h.1, kl_cut b h.2⟩
  | .ag v, h => by simp only [V.ev, V.ag.injEq] at h ⊢; exact kl_cut v h
  | .tup v, h => by simp only [V.ev, V.tup.injEq] at h ⊢; exact kl_cut v h
  | .gd _ _ _ v, h => by simp only [V.ev, V.gd.injEq, true_and] at h ⊢; exact kl_cut v h
  | .fn _ v, h => by simp only [V.ev, V.fn.injEq, true_and] at h ⊢; exact kl_cut v h
  | .ifc _ v, h => by simp only [V.ev, V.ifc.injEq, true_and] at h ⊢; exact kl_cut v h
  | .bx v, h => by simp only [V.ev, V.bx.injEq] at h ⊢; exact kl_cut v h
  | .any, _ => rfl
  | .nl, _ => rfl
  | .np, _ => rfl
  | .u, _ => rfl
  | .d _ _, _ => rfl

theorem klE_gt : ∀ (ids : List Nat) (env : Env) (t k : Nat), k ∈ ids → (gt (klE ids env) t).ev (.kl k) = gt (klE ids env) t
  | i :: r, env, t, k, h => by
    simp only [klE]
    by_cases hr : k ∈ r
    · exact klE_gt r _ t k hr
    · have hk : k = i := by
        cases h with
        | head => rfl
        | tail _ h => exact absurd h hr
      subst hk
      have key : ∀ (r : List Nat) (env : Env), (∀ t, (gt env t).ev (.kl k) = gt env t) → ∀ t, (gt (klE r env) t).ev (.kl k) = gt (klE r env) t := by
        intro r
        induction r with
        | nil => intro env h t; exact h t
        | cons j r ih =>
          intro env h t
          simp only [klE]
          refine ih _ (fun t => ?_) t
          rw [gt_evE, kl_comm, h]
      exact key r _ (fun t => by rw [gt_evE, kl_idem]) t
theorem klM_go : ∀ (ids : List Nat) (M : Mem) (k : Nat), k ∈ ids → go (klM ids M) k = none
  | i :: r, M, k, h => by
    simp only [klM]
    by_cases hr : k ∈ r
    · exact klM_go r _ k hr
    · have hk : k = i := by
        cases h with
        | head => rfl
        | tail _ h => exact absurd h hr
      subst hk
      have key : ∀ (r : List Nat) (M : Mem), go M k = none → go (klM r M) k = none := by
        intro r
        induction r with
        | nil => intro M h; exact h
        | cons j r ih =>
          intro M h
          simp only [klM]
          refine ih _ ?_
          by_cases e : k = j
          · subst e; exact go_del_self _ _
          · rw [go_del_ne e, h]
      exact key r _ (go_del_self _ _)
theorem St.kls {F : Fr} {a : Act} {w : World} : ∀ (ids : List Nat) {p : Ow} {env : Env} {M : Mem}, St F p env M a w → St F p (klE ids env) (klM ids M) a w
  | [], _, _, _, h => h
  | k :: r, p, env, M, h => by
    have := h.tr (Tr.kl h.hp k) h.lz
    exact St.kls r (by simpa only [evEs] using this)

/-- a state says of memory only what is found there -/
theorem St.same {F : Fr} {p : Ow} {env env' : Env} {M M' : Mem} {a : Act} {w : World} (h : St F p env M a w) (hM : ∀ k, go M' k = go M k) (he : ∀ t, gt env' t = gt env t) : St F p env' M' a w := by
  have hl : ∀ k, Live M' k ↔ Live M k := fun k => by simp only [Live, hM]
  have hi : Imm F p M' w = Imm F p M w := by
    funext b
    simp only [Imm, hl]
  have hp : Hp F p M' w := by
    refine ⟨fun k ob hk => ?_, fun k k' b h1 h2 h3 => h.hp.sep k k' b h1 ((hl k).1 h2) ((hl k').1 h3), fun k b h1 => h.hp.own k b ((hl k).1 h1), fun b hb => ⟨(h.hp.lim b hb).1, (h.hp.lim b hb).2.1, fun k hk => (h.hp.lim b hb).2.2 k ((hl k).1 hk)⟩, h.hp.os, h.hp.tape, h.hp.output, h.hp.size, h.hp.old⟩
    rw [hi]
    exact h.hp.objs k ob (by rw [← hM]; exact hk)
  have ht : Tr F p M w [] p M' w := Tr.zero (by rw [hi]; exact Keep.refl _ _) (fun k π vs r => r.same h.hp (hM k) rfl fun _ _ _ => rfl) (fun k π v r => r.same h.hp (hM k) rfl fun _ _ _ => rfl) hp
  exact (h.tr ht h.lz).weak fun t => .inr (by rw [he]; rfl)


/-! ### any order -/

section
variable {F : Fr} {P : Program} {all : Array Oper} {E : Nat → Env} {X : Nat → Mem} {M0 : Mem}

structure Sta (B : Tab) (all : Array Oper) (E : Nat → Env) (X : Nat → Mem) (M0 : Mem) (listed : Array Bool) (env : Env) (M : Mem) : Prop where
  a : ∀ t, (∀ (i : Nat) (o : Oper), all[i]? = some o → isL listed i → o.dst ≠ some t) → gt env t = gt (E 0) t
  b : ∀ (i : Nat) (o : Oper) (t : Nat), all[i]? = some o → isL listed i → o.dst = some t → gt env t = gt (E (i + 1)) t
  c : ∀ k, (∀ (i : Nat) (o : Oper) (ty : TypeId), all[i]? = some o → isL listed i → o.op = .alloc ty → o.dst ≠ some k) → go M k = go M0 k
  d : ∀ (i : Nat) (o : Oper) (k : Nat) (ty : TypeId), all[i]? = some o → isL listed i → o.op = .alloc ty → o.dst = some k → (∀ (s : Nat) (o' : Oper), all[s]? = some o' → isL listed s → tgt o' ≠ some k) → go M k = some (zeroB B ty)
  s : ∀ (s : Nat) (o : Oper) (k : Nat), all[s]? = some o → isL listed s → tgt o = some k → go M k = go (X (s + 1)) k

structure Ctx (B : Tab) (Φ : FuncId → Option Ct) (all : Array Oper) (E : Nat → Env) (X : Nat → Mem) (M0 : Mem) : Prop where
  hb : backs 0 all.toList = true
  hdr : okDraw all (masks [] all.toList) all.size = true
  hnd : nodupN (tgts all.toList) = true
  hE : ∀ (j : Nat) (o : Oper), all[j]? = some o → bstep B Φ o (E j) (X j) (E (j + 1)) (X (j + 1))
  hX : X 0 = []
  h0 : ∀ t (i : Nat) (o : Oper) (ty : TypeId) (k : Nat), all[i]? = some o → o.op = .alloc ty → o.dst = some k → (gt (E 0) t).ev (.kl k) = gt (E 0) t
  hM : ∀ (i : Nat) (o : Oper) (ty : TypeId) (k : Nat), all[i]? = some o → o.op = .alloc ty → o.dst = some k → go M0 k = none

theorem Ctx.uniq (C : Ctx B Φ all E X M0) {i j : Nat} {x y : Oper} {t : Nat} (hx : all[i]? = some x) (hy : all[j]? = some y) (h1 : x.dst = some t) (h2 : y.dst = some t) : i = j := by
  rcases Nat.decEq i j with h | h
  · exact absurd h2 (okPair_dst (okDraw_spec C.hdr (Array.getElem?_eq_some_iff.1 hx).1 (Array.getElem?_eq_some_iff.1 hy).1 h hx hy) h1)
  · exact h
theorem Ctx.tuniq (C : Ctx B Φ all E X M0) {i j : Nat} {x y : Oper} {t : Nat} (hx : all[i]? = some x) (hy : all[j]? = some y) (h1 : tgt x = some t) (h2 : tgt y = some t) : i = j :=
  tgts_uniq C.hnd (by rw [toList_get]; exact hx) (by rw [toList_get]; exact hy) h1 h2

theorem bstep_wr {o : Oper} {e e' : Env} {x x' : Mem} (h : bstep B Φ o e x e' x') : e' = wr o.dst (match o.dst with | some d => gt e' d | none => .any) e := by
  obtain ⟨_, ⟨ty, d, _, hd, _, _, rfl, _⟩ | ⟨t, d, y, ob, ob', _, hd, _, _, _, _, rfl, _⟩ | ⟨d, vc, v, hd, _, _, _, _, _, rfl, _⟩⟩ := h
  · rw [hd]; simp only [wr, gt_cons, if_true]
  · rw [hd]; rfl
  · rw [hd]; simp only [wr, gt_cons, if_true]
theorem bstep_val {o : Oper} {e e' : Env} {x x' : Mem} {t : Nat} (h : bstep B Φ o e x e' x') (ht : o.dst = some t) : isDat (gt e' t) = true ∨ gt e' t = .ad t [.de] := by
  obtain ⟨_, ⟨ty, d, _, hd, _, _, rfl, _⟩ | ⟨_, d, y, ob, ob', _, hd, _, _, _, _, rfl, _⟩ | ⟨d, vc, v, hd, _, _, _, hv, _, rfl, _⟩⟩ := h
  · rw [hd] at ht; cases ht; right; simp only [gt_cons, if_true]
  · rw [hd] at ht; cases ht
  · rw [hd] at ht; cases ht; left; simp only [gt_cons, if_true]; exact hv

theorem Ctx.spec (C : Ctx B Φ all E X M0) : ∀ (j : Nat), j ≤ all.size → ∀ k ob, go (X j) k = some ob →
    ∃ (i : Nat) (o : Oper) (ty : TypeId), i < j ∧ all[i]? = some o ∧ o.op = .alloc ty ∧ o.dst = some k ∧ ((∀ (s : Nat) (o' : Oper), s < j → all[s]? = some o' → tgt o' ≠ some k) → ob = zeroB B ty)
  | 0, _, k, ob, h => by rw [C.hX] at h; cases h
  | j + 1, hj, k, ob, h => by
    have ho : all[j]? = some all[j] := Array.getElem?_eq_getElem (by omega)
    have up : ∀ {ob2}, go (X j) k = some ob2 → (ob2 = ob ∨ tgt all[j] = some k) → ∃ (i : Nat) (o : Oper) (ty : TypeId), i < j + 1 ∧ all[i]? = some o ∧ o.op = .alloc ty ∧ o.dst = some k ∧ ((∀ (s : Nat) (o' : Oper), s < j + 1 → all[s]? = some o' → tgt o' ≠ some k) → ob = zeroB B ty) := by
      intro ob2 h2 h3
      obtain ⟨i, o, ty, i1, i2, i3, i4, i5⟩ := C.spec j (by omega) k ob2 h2
      refine ⟨i, o, ty, by omega, i2, i3, i4, fun hs => ?_⟩
      rcases h3 with h3 | h3
      · rw [← h3]; exact i5 fun s o' hs' => hs s o' (by omega)
      · exact absurd h3 (hs j _ (by omega) ho)
    obtain ⟨_, ⟨ty, d, hop, hd, _, hx, _, e⟩ | ⟨t, d, y, ob1, ob', hop, hd, hx, _, _, _, _, e⟩ | ⟨d, vc, v, hd, _, _, _, hv, _, _, e⟩⟩ := C.hE j _ ho
    · rw [e, go_cons] at h
      split at h
      · rename_i hk; subst hk; cases h
        exact ⟨j, _, ty, by omega, ho, hop, hd, fun _ => rfl⟩
      · exact up h (.inl rfl)
    · rw [e] at h
      by_cases hk : k = d
      · subst hk; exact up hx (.inr (by simp only [tgt, hop]))
      · rw [go_put_ne _ hk] at h; exact up h (.inl rfl)
    · rw [e] at h; exact up h (.inl rfl)

theorem Ctx.fresh (C : Ctx B Φ all E X M0) {i : Nat} {o : Oper} {k : Nat} {ty : TypeId} (hi : all[i]? = some o) (h1 : o.op = .alloc ty) (h2 : o.dst = some k) : ∀ (j : Nat), j ≤ all.size → i < j → (∀ (s : Nat) (o' : Oper), s < j → all[s]? = some o' → tgt o' ≠ some k) → go (X j) k = some (zeroB B ty)
  | 0, _, h, _ => by omega
  | j + 1, hj, h, hs => by
    have ho : all[j]? = some all[j] := Array.getElem?_eq_getElem (by omega)
    obtain ⟨_, ⟨ty', d, hop, hd, _, hx, _, e⟩ | ⟨t, d, y, ob1, ob', hop, hd, hx, _, _, _, _, e⟩ | ⟨d, vc, v, hd, hpk, _, _, hv, _, _, e⟩⟩ := C.hE j _ ho
    · rw [e, go_cons]
      by_cases hk : d = k
      · subst hk
        have := C.uniq hi ho h2 hd
        subst this
        rw [hi] at ho; cases ho
        rw [if_pos rfl]
        rw [h1] at hop; cases hop; rfl
      · rw [if_neg hk]
        have hij : i ≠ j := fun hij => by subst hij; rw [hi] at ho; cases ho; rw [h2] at hd; cases hd; exact hk rfl
        exact C.fresh hi h1 h2 j (by omega) (by omega) fun s o' hs' => hs s o' (by omega)
    · have hij : i ≠ j := fun hij => by subst hij; rw [hi] at ho; cases ho; rw [h2] at hd; cases hd
      have hk : k ≠ d := fun hk => hs j _ (by omega) ho (by subst hk; simp only [tgt, hop])
      rw [e, go_put_ne _ hk]
      exact C.fresh hi h1 h2 j (by omega) (by omega) fun s o' hs' => hs s o' (by omega)
    · have hij : i ≠ j := fun hij => by
        subst hij; rw [hi] at ho; cases ho
        rw [h1] at hpk; cases hpk
      rw [e]
      exact C.fresh hi h1 h2 j (by omega) (by omega) fun s o' hs' => hs s o' (by omega)

theorem Ctx.alloc_of (C : Ctx B Φ all E X M0) {s : Nat} {o : Oper} {k : Nat} (hs : all[s]? = some o) (ht : tgt o = some k) :
    ∃ (i : Nat) (x : Oper) (ty : TypeId), i < s ∧ all[i]? = some x ∧ x.op = .alloc ty ∧ x.dst = some k ∧ go (X s) k = some (zeroB B ty) := by
  have hlt := (Array.getElem?_eq_some_iff.1 hs).1
  obtain ⟨_, ⟨ty, d, hop, hd, _, hx, _, e⟩ | ⟨t, d, y, ob1, ob', hop, hd, hx, _, _, _, _, e⟩ | ⟨d, vc, v, hd, hpk, _, _, hv, _, _, e⟩⟩ := C.hE s _ hs
  · simp only [tgt, hop] at ht; cases ht
  · simp only [tgt, hop, Option.some.injEq] at ht
    subst ht
    obtain ⟨i, x, ty, i1, i2, i3, i4, i5⟩ := C.spec s (by omega) d ob1 hx
    refine ⟨i, x, ty, i1, i2, i3, i4, ?_⟩
    rw [hx, i5 fun s' o' h1 h2 h3 => ?_]
    have := C.tuniq h2 hs h3 (by simp only [tgt, hop])
    omega
  · exfalso
    unfold tgt at ht
    split at ht
    · rename_i hop; rw [hop] at hpk; cases hpk
    · cases ht

theorem Ctx.kept (C : Ctx B Φ all E X M0) {s : Nat} {o : Oper} {k : Nat} (hs : all[s]? = some o) (ht : tgt o = some k) : ∀ (j : Nat), j ≤ all.size → s < j → go (X j) k = go (X (s + 1)) k
  | 0, _, h => by omega
  | j + 1, hj, h => by
    by_cases e : s = j
    · rw [e]
    · have ho : all[j]? = some all[j] := Array.getElem?_eq_getElem (by omega)
      rw [← C.kept hs ht j (by omega) (by omega)]
      obtain ⟨i, x, ty0, i1, i2, i3, i4, _⟩ := C.alloc_of hs ht
      obtain ⟨_, ⟨ty', d, hop, hd, _, hx, _, e⟩ | ⟨t, d, y, ob1, ob', hop, hd, hx, _, _, _, _, e⟩ | ⟨d, vc, v, hd, hpk, _, _, hv, _, _, e⟩⟩ := C.hE j _ ho
      · rw [e, go_cons, if_neg]
        intro hk; subst hk
        have := C.uniq i2 ho i4 hd
        omega
      · rw [e, go_put_ne]
        intro hk; subst hk
        have := C.tuniq hs ho ht (by simp only [tgt, hop])
        omega
      · rw [e]

theorem Ctx.gts (C : Ctx B Φ all E X M0) (j t : Nat) (hj : j ≤ all.size) :
    ((∀ (i : Nat) (o : Oper), all[i]? = some o → i < j → o.dst ≠ some t) → gt (E j) t = gt (E 0) t) ∧
    (∀ (i : Nat) (o : Oper), all[i]? = some o → i < j → o.dst = some t → gt (E j) t = gt (E (i + 1)) t) := by
  have hw : ∀ (j : Nat) (o : Oper), all.toList[j]? = some o → E (j + 1) = wr o.dst (match all[j]? with | some o => (match o.dst with | some d => gt (E (j + 1)) d | none => .any) | none => .any) (E j) := fun j o hj => by
    rw [toList_get] at hj
    rw [hj]
    exact bstep_wr (C.hE j o hj)
  obtain ⟨a1, a2⟩ := steps_gt hw j t (by simpa using hj)
  refine ⟨fun h => a1 fun i o hi => h i o (by rwa [toList_get] at hi), fun i o hi hlt hd => ?_⟩
  rw [a2 i o (by rw [toList_get]; exact hi) hlt hd fun i' o' hi' _ hd' => C.uniq (by rwa [toList_get] at hi') hi hd' hd]
  simp only [hi, hd]

theorem isL_set {listed : Array Bool} {i j : Nat} (hj : j < listed.size) : isL (listed.setIfInBounds j true) i ↔ i = j ∨ isL listed i := by
  by_cases e : i = j
  · subst e; simp [isL, hj]
  · unfold isL
    rw [getD_set_ne false (Ne.symm e)]
    simp [e]

/-- one operation, wherever it comes -/
theorem Ctx.step (C : Ctx B Φ all E X M0) {listed : Array Bool} (hs : listed.size = all.size) (hdn : Down all listed) {env : Env} {M : Mem} (S : Sta B all E X M0 listed env M) {j : Nat} {o : Oper} (ho : all[j]? = some o) (hnl : ¬ isL listed j)
    (hrd : ∀ e ∈ o.after, Region.binds .any e = true → isL listed e.on) : tw B Φ (toL all) [o] env M (fun env' M' => Sta B all E X M0 (listed.setIfInBounds j true) env' M') := by
  have hjs := (Array.getElem?_eq_some_iff.1 ho).1
  have hset : ∀ i, isL (listed.setIfInBounds j true) i ↔ i = j ∨ isL listed i := fun i => isL_set (by rw [hs]; exact hjs)
  have hlook : ∀ t ∈ o.looksAt all, gt env t = gt (E j) t := fun t htl => by
    by_cases hw : ∃ (i : Nat) (x : Oper), all[i]? = some x ∧ x.dst = some t
    · obtain ⟨i, x, e1, e3⟩ := hw
      have e2 := (Array.getElem?_eq_some_iff.1 e1).1
      by_cases hij : i < j
      · have hpair := okPair_look (okDraw_spec C.hdr e2 hjs (by omega) e1 ho) e3 htl
        rw [if_pos hij] at hpair
        have hli := mask_listed hdn C.hb j o ho hrd i hpair
        rw [S.b i x t e1 hli e3, (C.gts j t (by omega)).2 i x e1 hij e3]
      · have hnli : ¬ isL listed i := fun hli => by
          by_cases e : i = j
          · subst e; exact hnl hli
          · have hpair := okPair_look (okDraw_spec C.hdr e2 hjs e e1 ho) e3 htl
            rw [if_neg hij] at hpair
            exact hnl (mask_listed hdn C.hb i x e1 (fun e' he' hb' => hdn i x e1 hli e' he' hb') j hpair)
        rw [S.a t fun i' o' h1' h2' h3' => hnli (C.uniq h1' e1 h3' e3 ▸ h2')]
        exact ((C.gts j t (by omega)).1 fun i' o' h1' h2' h3' => hij (C.uniq h1' e1 h3' e3 ▸ h2')).symm
    · rw [S.a t fun i x h1 h2 h3 => hw ⟨i, x, h1, h3⟩]
      exact ((C.gts j t (by omega)).1 fun i x h1 h2 h3 => hw ⟨i, x, h1, h3⟩).symm
  have hrdE : ∀ x ∈ o.op.operands, rd env x = rd (E j) x := fun x hx => by
    cases x with
    | tmp t => exact hlook t (List.mem_append_left _ (List.mem_filterMap.2 ⟨.tmp t, by simpa using hx, rfl⟩))
    | const c => rfl
    | global g => rfl
    | func f => rfl
  obtain ⟨hg, hk⟩ := C.hE j o ho
  simp only [tw, hg]
  rcases hk with ⟨ty, d, hop, hd, hty, hx, he, hxe⟩ | ⟨t, d, y, ob, ob', hop, hd, hx, hy, hadd, hst, he, hxe⟩ | ⟨d, vc, v, hd, hpk, hdat, hev, hv, hvc, he, hxe⟩
  · have hr : evR B Φ o env M = ⟨[], .ad d [.de], [.kl d], (d, zeroB B ty) :: del d M⟩ := by
      simp only [evR, hop, evOp, opds, needs, ap, hd, newB, hty, cond_true, zeroB]
    rw [hr]
    simp only [conj, hd, wr, evEs]
    have stab : ∀ t, t ≠ d → (gt env t).ev (.kl d) = gt env t := fun t htd => by
      by_cases hw : ∃ (i : Nat) (x : Oper), all[i]? = some x ∧ isL listed i ∧ x.dst = some t
      · obtain ⟨i, x, e1, e2, e3⟩ := hw
        rw [S.b i x t e1 e2 e3]
        rcases bstep_val (C.hE i x e1) e3 with h | h
        · exact dat_ev _ _ h
        · rw [h]; simp only [V.ev, Ev.ad, beq_cond, if_neg htd]
      · rw [S.a t fun i x h1 h2 h3 => hw ⟨i, x, h1, h2, h3⟩]
        exact C.h0 t j o ty d ho hop hd
    have nst : ∀ (s : Nat) (o' : Oper), all[s]? = some o' → isL listed s → tgt o' ≠ some d := fun s o' h1 h2 h3 => by
      obtain ⟨i, x, ty', i1, i2, i3, i4, _⟩ := C.alloc_of h1 h3
      have := C.uniq i2 ho i4 hd
      subst this
      have hmm : Operand.tmp d ∈ o'.op.operands := by
        unfold tgt at h3
        split at h3
        · rename_i hop'; cases h3; simp [hop', Op.operands]
        · cases h3
      have hlk : d ∈ o'.looksAt all := List.mem_append_left _ (List.mem_filterMap.2 ⟨.tmp d, by simpa using hmm, rfl⟩)
      have hpair := okPair_look (okDraw_spec C.hdr hjs (Array.getElem?_eq_some_iff.1 h1).1 (by omega) ho h1) hd hlk
      rw [if_pos i1] at hpair
      exact hnl (mask_listed hdn C.hb s o' h1 (fun e' he' hb' => hdn s o' h1 h2 e' he' hb') i hpair)
    refine ⟨fun t ht => ?_, fun i x t hi hl hdx => ?_, fun k hk => ?_, fun i x k ty' hi hl h1 h2 hns => ?_, fun s x k hi hl htk => ?_⟩
    · have htd : d ≠ t := fun h => ht j o ho ((hset j).2 (.inl rfl)) (by rw [hd, h])
      rw [gt_cons, if_neg htd, gt_evE, stab t (Ne.symm htd)]
      exact S.a t fun i x hi hl => ht i x hi ((hset i).2 (.inr hl))
    · rw [gt_cons]
      by_cases hij : i = j
      · subst hij; rw [ho] at hi; cases hi; rw [hd] at hdx; cases hdx
        rw [if_pos rfl, he, gt_cons, if_pos rfl]
      · have htd : d ≠ t := fun h => hij (C.uniq hi ho hdx (by rw [hd, h]))
        rw [if_neg htd, gt_evE, stab t (Ne.symm htd)]
        exact S.b i x t hi (((hset i).1 hl).resolve_left hij) hdx
    · have hkd : d ≠ k := fun h => hk j o ty ho ((hset j).2 (.inl rfl)) hop (by rw [hd, h])
      rw [go_cons, if_neg hkd, go_del_ne (Ne.symm hkd)]
      exact S.c k fun i x ty' hi hl => hk i x ty' hi ((hset i).2 (.inr hl))
    · rw [go_cons]
      by_cases hij : i = j
      · subst hij; rw [ho] at hi; cases hi; rw [hd] at h2; cases h2
        rw [if_pos rfl]; rw [hop] at h1; cases h1; rfl
      · have hkd : d ≠ k := fun h => hij (C.uniq hi ho h2 (by rw [hd, h]))
        rw [if_neg hkd, go_del_ne (Ne.symm hkd)]
        exact S.d i x k ty' hi (((hset i).1 hl).resolve_left hij) h1 h2 fun s o' hs' hl' => hns s o' hs' ((hset s).2 (.inr hl'))
    · have hsl : isL listed s := by
        rcases (hset s).1 hl with h | h
        · subst h; rw [ho] at hi; cases hi; simp only [tgt, hop] at htk; cases htk
        · exact h
      have hkd : d ≠ k := fun h => nst s x hi hsl (by rw [htk, h])
      rw [go_cons, if_neg hkd, go_del_ne (Ne.symm hkd)]
      exact S.s s x k hi hsl htk
  · have htg : tgt o = some d := by simp only [tgt, hop]
    have hyr : rd env y = rd (E j) y := hrdE y (by simp [hop, Op.operands])
    have hdr : gt env d = .ad d [.de] := by
      have h1 : gt env d = gt (E j) d := by simpa only [rd] using hrdE (.tmp d) (by simp [hop, Op.operands])
      rw [h1]
      unfold isAdd at hadd
      split at hadd
      · rename_i k e; rw [e, Nat.eq_of_beq_eq_true hadd]
      · cases hadd
    obtain ⟨ia, xa, tya, i1, i2, i3, i4, i5⟩ := C.alloc_of ho htg
    have hlk : d ∈ o.looksAt all := List.mem_append_left _ (List.mem_filterMap.2 ⟨.tmp d, by simp [hop, Op.operands], rfl⟩)
    have hla : isL listed ia := by
      have hpair := okPair_look (okDraw_spec C.hdr (Array.getElem?_eq_some_iff.1 i2).1 hjs (by omega) i2 ho) i4 hlk
      rw [if_pos i1] at hpair
      exact mask_listed hdn C.hb j o ho hrd ia hpair
    have nst : ∀ (s : Nat) (o' : Oper), all[s]? = some o' → isL listed s → tgt o' ≠ some d := fun s o' h1 h2 h3 => by
      have := C.tuniq h1 ho h3 htg
      subst this; exact hnl h2
    have hgo : go M d = some ob := by rw [S.d ia xa d tya i2 hla i3 i4 nst, ← i5, hx]
    obtain ⟨v, e, hs1, oo, oo', hs2, hs3⟩ := store_dat (M := M) hy hgo hst
    have hr : evR B Φ o env M = ⟨[], v, [e], put d ob' M⟩ := by
      have e1 : rd env (.tmp d) = .ad d [.de] := hdr
      have e4 : (rd env (.tmp d)).strip = .ad d [.de] := by rw [e1]; rfl
      have e3 : (rd env y).strip = rd (E j) y := by rw [hyr, dat_strip hy]
      have e2 : needs (rd env) [y] = [] := needs_dat [y] fun z hz => by simp only [List.mem_singleton] at hz; subst hz; rw [hyr]; exact hy
      have e5 : needs (rd env) [.tmp d, y] = [] := by rw [needs, e1]; exact e2
      simp only [evR, hop, evOp, opds, e4, e3, hs1, e5, ap]
    rw [hr]
    simp only [conj, hd, wr, evEs]
    have stab : ∀ t, (gt env t).ev e = gt env t := fun t => by
      subst hs2
      by_cases hw : ∃ (i : Nat) (x : Oper), all[i]? = some x ∧ isL listed i ∧ x.dst = some t
      · obtain ⟨i, x, e1, e2, e3⟩ := hw
        rw [S.b i x t e1 e2 e3]
        rcases bstep_val (C.hE i x e1) e3 with h | h
        · exact dat_ev _ _ h
        · rw [h]
          simp only [V.ev, Ev.ad, hs3, cond_true]
          cases Nat.beq t d <;> rfl
      · rw [S.a t fun i x h1 h2 h3 => hw ⟨i, x, h1, h2, h3⟩]
        exact kl_cut _ (C.h0 t ia xa tya d i2 i3 i4)
    have hnja : ∀ (i : Nat) (x : Oper) (ty : TypeId), all[i]? = some x → isL (listed.setIfInBounds j true) i → x.op = .alloc ty → isL listed i := fun i x ty hi hl hxo => by
      rcases (hset i).1 hl with h | h
      · subst h; rw [ho] at hi; cases hi; rw [hop] at hxo; cases hxo
      · exact h
    refine ⟨fun t ht => ?_, fun i x t hi hl hdx => ?_, fun k hk => ?_, fun i x k ty' hi hl h1 h2 hns => ?_, fun s x k hi hl htk => ?_⟩
    · rw [gt_evE, stab]
      exact S.a t fun i x hi hl => ht i x hi ((hset i).2 (.inr hl))
    · rw [gt_evE, stab]
      rcases (hset i).1 hl with h | h
      · subst h; rw [ho] at hi; cases hi; rw [hd] at hdx; cases hdx
      · exact S.b i x t hi h hdx
    · have hkd : k ≠ d := fun h => hk ia xa tya i2 ((hset ia).2 (.inr hla)) i3 (by rw [i4, h])
      rw [go_put_ne _ hkd]
      exact S.c k fun i x ty' hi hl => hk i x ty' hi ((hset i).2 (.inr hl))
    · have hkd : k ≠ d := fun h => hns j o ho ((hset j).2 (.inl rfl)) (by rw [htg, h])
      rw [go_put_ne _ hkd]
      exact S.d i x k ty' hi (hnja i x ty' hi hl h1) h1 h2 fun s o' hs' hl' => hns s o' hs' ((hset s).2 (.inr hl'))
    · rcases (hset s).1 hl with h | h
      · subst h; rw [ho] at hi; cases hi; rw [htg] at htk; cases htk
        rw [go_put_self _ _ (go_live hgo), hxe, go_put_self _ _ (go_live hx)]
      · have hkd : k ≠ d := fun hk => nst s x hi h (by rw [htk, hk])
        rw [go_put_ne _ hkd]
        exact S.s s x k hi h htk
  · have hr : evR B Φ o env M = ⟨vc, v, [], M⟩ := by
      rw [evR_congr o hrdE]
      exact pure_dat M hpk hdat hev
    rw [hr]
    simp only [conj_iff, hd, wr, evEs]
    have hna : ∀ ty, o.op ≠ .alloc ty := fun ty h => by rw [h] at hpk; cases hpk
    have hnt : tgt o = none := by
      unfold tgt
      split
      · rename_i h; rw [h] at hpk; cases hpk
      · rfl
    have hnja : ∀ (i : Nat) (x : Oper) (ty : TypeId), all[i]? = some x → isL (listed.setIfInBounds j true) i → x.op = .alloc ty → isL listed i := fun i x ty hi hl hxo => by
      rcases (hset i).1 hl with h | h
      · subst h; rw [ho] at hi; cases hi; exact absurd hxo (hna ty)
      · exact h
    refine ⟨hvc, fun t ht => ?_, fun i x t hi hl hdx => ?_, fun k hk => ?_, fun i x k ty' hi hl h1 h2 hns => ?_, fun s x k hi hl htk => ?_⟩
    · have htd : d ≠ t := fun h => ht j o ho ((hset j).2 (.inl rfl)) (by rw [hd, h])
      rw [gt_cons, if_neg htd]
      exact S.a t fun i x hi hl => ht i x hi ((hset i).2 (.inr hl))
    · rw [gt_cons]
      by_cases hij : i = j
      · subst hij; rw [ho] at hi; cases hi; rw [hd] at hdx; cases hdx
        rw [if_pos rfl, he, gt_cons, if_pos rfl]
      · have htd : d ≠ t := fun h => hij (C.uniq hi ho hdx (by rw [hd, h]))
        rw [if_neg htd]
        exact S.b i x t hi (((hset i).1 hl).resolve_left hij) hdx
    · exact S.c k fun i x ty' hi hl => hk i x ty' hi ((hset i).2 (.inr hl))
    · exact S.d i x k ty' hi (hnja i x ty' hi hl h1) h1 h2 fun s o' hs' hl' => hns s o' hs' ((hset s).2 (.inr hl'))
    · rcases (hset s).1 hl with h | h
      · subst h; rw [ho] at hi; cases hi; rw [hnt] at htk; cases htk
      · exact S.s s x k hi h htk

theorem go_ap (X M : Mem) (k : Nat) : go (ap X M) k = match go X k with | some ob => some ob | none => go M k := by
  induction X with
  | nil => rfl
  | cons x X ih =>
    obtain ⟨j, ob⟩ := x
    simp only [ap, go_cons]
    split
    · rfl
    · exact ih

theorem Ctx.fin (C : Ctx B Φ all E X M0) {listed : Array Bool} {env : Env} {M : Mem} (S : Sta B all E X M0 listed env M) (hall : ∀ i, i < all.size → isL listed i) :
    (∀ t, gt (E all.size) t = gt env t) ∧ ∀ k, go (ap (X all.size) M0) k = go M k := by
  have hal : ∀ {i : Nat} {o : Oper}, all[i]? = some o → isL listed i := fun h => hall _ (Array.getElem?_eq_some_iff.1 h).1
  constructor
  · intro t
    obtain ⟨g1, g2⟩ := C.gts all.size t (Nat.le_refl _)
    by_cases hw : ∃ (i : Nat) (x : Oper), all[i]? = some x ∧ x.dst = some t
    · obtain ⟨i, x, e1, e3⟩ := hw
      rw [g2 i x e1 (Array.getElem?_eq_some_iff.1 e1).1 e3, S.b i x t e1 (hal e1) e3]
    · rw [g1 fun i o h1 _ h3 => hw ⟨i, o, h1, h3⟩, S.a t fun i o h1 _ h3 => hw ⟨i, o, h1, h3⟩]
  · intro k
    rw [go_ap]
    cases hx : go (X all.size) k with
    | none =>
      simp only
      refine (S.c k fun i o ty hi _ h1 h2 => ?_).symm
      by_cases hst : ∃ (s : Nat) (o' : Oper), all[s]? = some o' ∧ tgt o' = some k
      · obtain ⟨s, o', s1, s2⟩ := hst
        have h3 := C.kept s1 s2 all.size (Nat.le_refl _) (Array.getElem?_eq_some_iff.1 s1).1
        obtain ⟨_, ⟨ty', d, hop, hd, _, hx', _, e⟩ | ⟨t, d, y, ob1, ob', hop, hd, hx', _, _, _, _, e⟩ | ⟨d, vc, v, hd, hpk, _, _, hv, _, _, e⟩⟩ := C.hE s _ s1
        · simp only [tgt, hop] at s2; cases s2
        · simp only [tgt, hop, Option.some.injEq] at s2
          subst s2
          rw [hx, e, go_put_self _ _ (go_live hx')] at h3; cases h3
        · unfold tgt at s2
          split at s2
          · rename_i hop; rw [hop] at hpk; cases hpk
          · cases s2
      · rw [C.fresh hi h1 h2 all.size (Nat.le_refl _) (Array.getElem?_eq_some_iff.1 hi).1 fun s o' _ s1 s2 => hst ⟨s, o', s1, s2⟩] at hx
        cases hx
    | some ob =>
      simp only
      obtain ⟨i, o, ty, i1, i2, i3, i4, i5⟩ := C.spec all.size (Nat.le_refl _) k ob hx
      by_cases hst : ∃ (s : Nat) (o' : Oper), all[s]? = some o' ∧ tgt o' = some k
      · obtain ⟨s, o', s1, s2⟩ := hst
        rw [S.s s o' k s1 (hal s1) s2, ← C.kept s1 s2 all.size (Nat.le_refl _) (Array.getElem?_eq_some_iff.1 s1).1, hx]
      · rw [S.d i o k ty i2 (hal i2) i3 i4 fun s o' s1 _ s2 => hst ⟨s, o', s1, s2⟩, i5 fun s o' _ s1 s2 => hst ⟨s, o', s1, s2⟩]

theorem Ctx.any (hΦ : Good P Φ) (hB : TabOk P B) (C : Ctx B Φ all E X M0) (Q : Exit → Act → World → Prop) (hco : opsOk F.nt all.toList = true) (hfv : ∀ o ∈ all.toList, ∀ k, o.dst = some k → F.fv k = none)
    (hQ : ∀ p a w, St F p (E all.size) (ap (X all.size) M0) a w → Q .normal a w) :
    ∀ (fuel : Nat) (listed : Array Bool) (p : Ow) (env : Env) (M : Mem) (a : Act) (w : World), listed.size = all.size → unl listed all.size ≤ fuel → Down all listed → Sta B all E X M0 listed env M → St F p env M a w → wpAny P .any all Q fuel listed a w := by
  intro fuel
  have done : ∀ (listed : Array Bool) (p : Ow) (env : Env) (M : Mem) (a : Act) (w : World), listed.size = all.size → Region.ready .any all listed = [] → Sta B all E X M0 listed env M → St F p env M a w → Q .normal a w := by
    intro listed p env M a w hs hr S hst
    obtain ⟨f1, f2⟩ := C.fin S (ready_some hs C.hb hr)
    exact hQ p a w (hst.same f2 f1)
  have noready : ∀ (listed : Array Bool), listed.size = all.size → unl listed all.size = 0 → Region.ready .any all listed = [] := by
    intro listed hs hu
    cases hr : Region.ready .any all listed with
    | nil => rfl
    | cons i r =>
      obtain ⟨o, h1, h2, _⟩ := ready_edges (j := i) (by rw [hr]; simp)
      have hi := (Array.getElem?_eq_some_iff.1 h1).1
      have := unl_zero hu i hi
      unfold isL at this
      simp [hs, hi] at this h2
      rw [this] at h2; cases h2
  induction fuel with
  | zero =>
    intro listed p env M a w hs hu _ S hst
    have hr := noready listed hs (by omega)
    exact ⟨hr, done listed p env M a w hs hr S hst⟩
  | succ fuel ih =>
    intro listed p env M a w hs hu hdn S hst
    refine ⟨fun hr => done listed p env M a w hs hr S hst, fun j hj => ?_⟩
    obtain ⟨o, h1, h2, h3⟩ := ready_edges hj
    have hjs := (Array.getElem?_eq_some_iff.1 h1).1
    have hnl : ¬ isL listed j := by
      unfold isL; simp [hs, hjs] at h2 ⊢; exact h2
    have hm : o ∈ all.toList := by rw [Array.mem_toList_iff]; exact Array.mem_of_getElem? h1
    refine wpOp_mono (fun a' w' ⟨p', env', M', e1, e2⟩ => ih _ p' env' M' a' w' (by simpa using hs) ?_ (hdn.set hj) e2 e1) (aw_step hΦ hB hst (C.step hs hdn S h1 hnl h3) (opsOk_mem hco hm) (hfv o hm) h1 Q)
    have := unl_set (by rw [hs]; exact hjs) hnl all.size hjs
    omega

theorem box_ok (hΦ : Good P Φ) (hB : TabOk P B) (hmix : P.follows .mixedOrders = true) {id : Nat} {ops : Array Oper} (hco : opsOk F.nt (toL ops) = true) (hfv : ∀ o ∈ toL ops, ∀ k, o.dst = some k → F.fv k = none) (hr : okBox (toL ops) = true) {K : Env → Mem → Prop} {Q : Exit → Act → World → Prop}
    (hQ : ∀ p env M a w, St F p env M a w → K env M → Q .normal a w) {p : Ow} {env : Env} {M : Mem} {a : Act} {w : World} (h : St F p env M a w)
    (hk : bx B Φ (toL ops) (klE (allocIds (toL ops)) env) [] (fun env X => K env (ap X (klM (allocIds (toL ops)) M)))) : (Code.region id ops true).wp P Q a w := by
  rw [toL_eq] at hco hfv hr hk
  simp only [okBox, Bool.and_eq_true] at hr
  obtain ⟨h1, h2, h3⟩ := hr
  obtain ⟨E, X, e0, x0, e1, e2⟩ := bx_steps _ _ _ _ hk
  have hlen : ops.toList.length = ops.size := by simp
  rw [hlen] at e2 h2
  have C : Ctx B Φ ops E X (klM (allocIds ops.toList) M) := {
    hb := h1
    hdr := by simpa using h2
    hnd := h3
    hE := fun j o ho => e1 j o (by rw [toList_get]; exact ho)
    hX := x0
    h0 := fun t i o ty k hi ho hd => by rw [e0]; exact klE_gt _ _ t k (alloc_mem (by rw [toList_get]; exact hi) ho hd)
    hM := fun i o ty k hi ho hd => klM_go _ _ k (alloc_mem (by rw [toList_get]; exact hi) ho hd) }
  refine wp_region_any hmix ?_
  have hst := h.kls (allocIds ops.toList)
  exact C.any hΦ hB Q hco hfv (fun p a w hs => hQ p _ _ a w hs e2) _ _ p (klE (allocIds ops.toList) env) (klM (allocIds ops.toList) M) a _ (by simp) (unl_le _ _) (fun j o _ hi => absurd hi isL_rep)
    ⟨fun t _ => by rw [e0], fun i o t _ hi => absurd hi isL_rep, fun k _ => rfl, fun i o k ty _ hi => absurd hi isL_rep, fun s o k _ hi => absurd hi isL_rep⟩ hst.drew

end
end Go.Bm

/- The typed machine: drawn regions whose calls give own trees. -/
namespace Go.Bm
open Go.RowKit

section
variable {P : Program} {B : Tab} {Φ : FuncId → Option Ct}

/-! ### what is looked at lies there still -/

/-- what it speaks of lies there still -/
def agK (M M0 : Mem) (k : Nat) : Prop := go M k = go M0 k ∧ go M0 k ≠ none
def agV (M M0 : Mem) : V → Prop
  | .p a b => agV M M0 a ∧ agV M M0 b
  | .ag v => agV M M0 v
  | .fn _ v => agV M M0 v
  | .bx v => agV M M0 v
  | .ref k _ => agK M M0 k
  | .ad k _ => agK M M0 k
  | .gd _ _ _ _ => False
  | .ifc _ _ => False
  | .tup _ => False
  | _ => True

section
variable {M0 M : Mem}

theorem go_liv {k : Nat} (h : agK M M0 k) : go M k = go M0 k := h.1
theorem getM_liv {k : Nat} (h : agK M M0 k) (π : Path) : getM M k π = getM M0 k π := by
  unfold getM; rw [go_liv h]
theorem size_liv : ∀ v : V, agV M M0 v → v.size M = v.size M0
  | .d _ _, _ => rfl
  | .nl, _ => rfl
  | .np, _ => rfl
  | .u, _ => rfl
  | .p a b, h => by
    simp only [agV] at h
    simp only [V.size, size_liv a h.1, size_liv b h.2]
  | .ag v, h => rfl
  | .fn f v, h => rfl
  | .bx v, h => rfl
  | .any, h => rfl
  | .ref k π, h => by simp only [V.size, getM_liv h]
  | .ad _ _, h => rfl
  | .tup _, h => by cases h
  | .gd _ _ _ _, h => by cases h
  | .ifc _ _, h => by cases h
theorem sizeIs_liv (v : V) (n : Nat) (h : agV M M0 v) : sizeIs M v n = sizeIs M0 v n := by simp only [sizeIs, size_liv v h]
theorem liv_dat : ∀ v : V, isDat v = true → agV M M0 v
  | .p a b, h => by
    simp only [isDat, nob_eq, Bool.and_eq_true] at h
    simp only [agV]
    exact ⟨liv_dat a h.1, liv_dat b h.2⟩
  | .ag v, h => liv_dat v h
  | .fn f v, h => liv_dat v h
  | .bx v, h => liv_dat v h
  | .d _ _, _ => trivial
  | .nl, _ => trivial
  | .np, _ => trivial
  | .u, _ => trivial
  | .any, h => by cases h
  | .ref _ _, h => by cases h
  | .ad _ _, h => by cases h
  | .tup _, h => by cases h
  | .gd _ _ _ _, h => by cases h
  | .ifc _ _, h => by cases h
theorem dat_expl : ∀ (t : T) (x : t.den), isDat (expl t x) = true := by
  intro t
  induction t with
  | p a b iha ihb => intro x; simp only [expl, isDat, nob_eq, Bool.and_eq_true]; exact ⟨iha x.1, ihb x.2⟩
  | _ => intro x; rfl
theorem liv_toV {k : Nat} (h : agK M M0 k) : ∀ (π : Path) (o : O) (x : o.strip.den), agV M M0 (toV k π o x) := by
  intro π o x
  cases o with
  | fz t => simp only [toV]; exact liv_dat _ (dat_expl _ _)
  | _ => exact h
theorem subV_liv : ∀ (π : Path) (v : V), agV M M0 v → subV M π v = subV M0 π v ∧ ∀ n x, subV M0 π v = some (n, x) → agV M M0 x
  | [], v, h => by
    simp only [subV, Option.some.injEq, Prod.mk.injEq]
    exact ⟨trivial, fun n x e => e.2 ▸ h⟩
  | .l :: π, .p a b, h => by
    simp only [agV] at h
    simp only [subV]
    exact subV_liv π a h.1
  | .r :: π, .p a b, h => by
    simp only [agV] at h
    obtain ⟨e1, e2⟩ := subV_liv π b h.2
    simp only [subV, e1, size_liv a h.1]
    refine ⟨trivial, fun n x hx => ?_⟩
    split at hx
    · rename_i m n' x' _ h2; cases hx; exact e2 _ _ h2
    · cases hx
  | s :: π, .ref k ρ, h => by
    have hk : agK M M0 k := h
    have e : ∀ M : Mem, subV M (s :: π) (.ref k ρ) = (match getM M k ρ, getM M k (ap ρ (s :: π)) with
      | some q, some q' => (match offAt (s :: π) q.o.strip with | some n => some (n, toV k (ap ρ (s :: π)) q'.o q'.x) | none => none)
      | _, _ => none) := fun M => by cases s <;> rfl
    rw [e, e, getM_liv hk, getM_liv hk]
    refine ⟨rfl, fun n x hx => ?_⟩
    split at hx
    · split at hx
      · cases hx; exact liv_toV hk _ _ _
      · cases hx
    · cases hx
  | .de :: π, .p a b, _ => by simp [subV]
  | .ix _ :: π, .p a b, _ => by simp [subV]
  | .l :: π, .d _ _, _ => by simp [subV]
  | .r :: π, .d _ _, _ => by simp [subV]
  | .de :: π, .d _ _, _ => by simp [subV]
  | .ix _ :: π, .d _ _, _ => by simp [subV]
  | _ :: π, .nl, _ => by simp [subV]
  | _ :: π, .np, _ => by simp [subV]
  | _ :: π, .u, _ => by simp [subV]
  | _ :: π, .ag _, _ => by simp [subV]
  | _ :: π, .fn _ _, _ => by simp [subV]
  | _ :: π, .bx _, _ => by simp [subV]
  | _ :: _, .any, h => by simp [subV]
  | _ :: _, .ad _ _, h => by simp [subV]
  | _ :: _, .tup _, h => by cases h
  | _ :: _, .gd _ _ _ _, h => by cases h
  | _ :: _, .ifc _ _, h => by cases h
theorem subA_liv (x : V) (π : Path) (off : Nat) (h : agV M M0 x) : subA M x π off = subA M0 x π off := by
  cases x with
  | ad k ρ => simp only [subA, getM_liv h]
  | bx v => simp only [agV] at h; simp only [subA, (subV_liv π v h).1]
  | d t y => cases t <;> rfl
  | _ => rfl
theorem evFldA_liv (τ : Ty) (x : V) (i : Nat) (h : agV M M0 x) : evFldA τ M x i = evFldA τ M0 x i := by
  simp only [evFldA, subA_liv x _ _ h]
theorem evFld_liv {B : Tab} (τ : Ty) (x : V) (i : Nat) (h : agV M M0 x) : evFld B τ M x i = evFld B τ M0 x i := by
  unfold evFld
  split
  · rename_i off ft _ v _
    simp only [agV] at h
    obtain ⟨e1, e2⟩ := subV_liv (fpath (len τ.fld) i) v h
    rw [e1]
    cases hs : subV M0 (fpath (len τ.fld) i) v with
    | none => rfl
    | some q => obtain ⟨n, w⟩ := q; simp only [sizeIs_liv w _ (e2 _ _ hs)]
  · rfl
theorem evIxA_liv {B : Tab} (τ : Ty) (x i : V) (h : agV M M0 x) : evIxA B τ M x i = evIxA B τ M0 x i := by
  unfold evIxA
  split
  · cases x with
    | ref k π => simp only [getM_liv h]
    | d t x => cases t <;> rfl
    | _ => rfl
  · rfl
theorem evLoad_liv (τ : Ty) (x : V) (h : agV M M0 x) : evLoad τ M x = evLoad τ M0 x := by
  cases x with
  | ad k π => simp only [evLoad, getM_liv h]
  | bx v => simp only [agV] at h; simp only [evLoad, sizeIs_liv _ _ h]
  | d t x => cases t <;> rfl
  | _ => rfl
theorem evLen_liv {τ : Ty} {x : V} (h : agV M M0 x) : evLen τ M x = evLen τ M0 x := by
  cases x with
  | ref k π => simp only [evLen, getM_liv h]
  | d t y => cases t <;> rfl
  | _ => rfl
theorem refV_liv {k : Nat} (h : agK M M0 k) (π : Path) (t : T) : refV M k π t = refV M0 k π t := by
  unfold refV; rw [getM_liv h]
theorem view_liv : ∀ (v : V) (t : T), agV M M0 v → v.view M t = v.view M0 t := by
  intro v
  induction v with
  | p a b iha ihb =>
    intro t h
    simp only [agV] at h
    cases t <;> first | rfl | (simp only [V.view]; rw [iha _ h.1, ihb _ h.2])
  | fn f v ih => intro t h; cases t <;> first | rfl | (simp only [V.view]; rw [ih _ h])
  | bx v ih => intro t h; cases t <;> first | rfl | (simp only [V.view]; rw [ih _ h])
  | ref k π => intro t h; cases t <;> simp only [V.view] <;> exact refV_liv h _ _
  | ad k π => intro t h; cases t <;> first | rfl | (simp only [V.view]; exact refV_liv h _ _)
  | gd _ _ _ _ => intro t h; cases h
  | any => intro t h; cases t <;> rfl
  | tup _ => intro t h; cases h
  | ifc _ _ => intro t h; cases h
  | ag v => intro t h; cases t <;> rfl
  | d t' x => intro t h; cases t <;> rfl
  | nl => intro t h; cases t <;> rfl
  | np => intro t h; cases t <;> rfl
  | u => intro t h; cases t <;> rfl
theorem cells_liv {v : V} (h : agV M M0 v) : agV M M0 v.cells := by cases v <;> exact h
theorem viewL_liv : ∀ (vs : List V) (ts : List T), (∀ v ∈ vs, agV M M0 v) → viewL M vs ts = viewL M0 vs ts
  | [], [], _ => rfl
  | [], _ :: _, _ => rfl
  | _ :: _, [], _ => rfl
  | v :: r, t :: ts, h => by
    simp only [viewL]
    rw [view_liv v.cells t (cells_liv (h v (by simp))), viewL_liv r ts fun x hx => h x (by simp [hx])]
theorem frz_head : ∀ (v : V) (M : Mem), (frzV M v).1 = [] ∨ ∃ k ob r, (frzV M v).1 = .fz k ob :: r := by
  intro v
  induction v with
  | p a b iha ihb =>
    intro M
    simp only [frzV]
    rcases iha M with h | ⟨k, ob, r, h⟩
    · rw [h]
      rcases ihb (frzV M a).2 with h2 | ⟨k, ob, r, h2⟩
      · rw [h2]; exact .inl rfl
      · rw [h2]; exact .inr ⟨k, ob, r, rfl⟩
    · rw [h]; exact .inr ⟨k, ob, _, rfl⟩
  | ref k π => intro M; simp only [frzV]; cases go M k <;> simp
  | ad k π => intro M; simp only [frzV]; cases go M k <;> simp
  | ag v ih => intro M; simp only [frzV]; exact ih M
  | fn f v ih => intro M; simp only [frzV]; exact ih M
  | ifc f v ih => intro M; simp only [frzV]; exact ih M
  | bx v ih => intro M; simp only [frzV]; exact ih M
  | tup v ih => intro M; simp only [frzV]; exact ih M
  | gd _ _ _ v ih => intro M; simp only [frzV]; exact ih M
  | _ => intro M; exact .inl rfl
theorem frzL_head : ∀ (vs : List V) (M : Mem), (frzL M vs).1 = [] ∨ ∃ k ob r, (frzL M vs).1 = .fz k ob :: r
  | [], M => .inl rfl
  | v :: vs, M => by
    simp only [frzL]
    rcases frz_head v M with h | ⟨k, ob, r, h⟩
    · rw [h]
      rcases frzL_head vs (frzV M v).2 with h2 | ⟨k, ob, r, h2⟩
      · rw [h2]; exact .inl rfl
      · rw [h2]; exact .inr ⟨k, ob, r, rfl⟩
    · rw [h]; exact .inr ⟨k, ob, _, rfl⟩
theorem ap_nils {α : Type} {a b : List α} (h : ap a b = []) : a = [] ∧ b = [] := by cases a <;> simp [ap] at h ⊢; exact h
theorem frz_nil : ∀ (v : V), agV M M0 v → (frzV M0 v).1 = [] → ∀ M1 : Mem, frzV M1 v = ([], M1) := by
  intro v
  induction v with
  | p a b iha ihb =>
    intro h e M1
    simp only [agV] at h
    simp only [frzV] at e ⊢
    obtain ⟨e1, e2⟩ := ap_nils e
    have ha := iha h.1 e1
    rw [ha M0] at e2
    simp only at e2
    rw [ha M1]
    simp only
    rw [ihb h.2 e2 M1]
    rfl
  | fn f v ih => intro h e M1; simp only [frzV] at e ⊢; exact ih h e M1
  | bx v ih => intro h e M1; simp only [frzV] at e ⊢; exact ih h e M1
  | ag v ih => intro h e M1; simp only [frzV] at e ⊢; exact ih h e M1
  | ref k π =>
    intro h e M1
    simp only [frzV] at e
    cases hg : go M0 k with
    | none => exact absurd hg h.2
    | some ob => rw [hg] at e; cases e
  | ad k π =>
    intro h e M1
    simp only [frzV] at e
    cases hg : go M0 k with
    | none => exact absurd hg h.2
    | some ob => rw [hg] at e; cases e
  | gd _ _ _ _ => intro h; cases h
  | any => intro h e M1; rfl
  | tup _ => intro h; cases h
  | ifc _ _ => intro h; cases h
  | d t' x => intro h e M1; rfl
  | nl => intro h e M1; rfl
  | np => intro h e M1; rfl
  | u => intro h e M1; rfl
theorem frzL_nil : ∀ vs : List V, (∀ v ∈ vs, agV M M0 v) → (frzL M0 vs).1 = [] → ∀ M1 : Mem, frzL M1 vs = ([], M1)
  | [], _, _, _ => rfl
  | v :: r, h, e, M1 => by
    simp only [frzL] at e ⊢
    obtain ⟨e1, e2⟩ := ap_nils e
    have ha := frz_nil v (h v (by simp)) e1
    rw [ha M0] at e2
    simp only at e2
    rw [ha M1]
    simp only
    rw [frzL_nil r (fun x hx => h x (by simp [hx])) e2 M1]
    rfl
theorem evsL_nil : ∀ vs : List V, evsL [] vs = vs
  | [] => rfl
  | v :: r => by simp only [evsL, V.evs]; rw [evsL_nil r]
theorem capL_liv : ∀ (v : V), agV M M0 v → capL M v = capL M0 v ∧ ∀ cs, capL M0 v = some cs → ∀ c ∈ cs, agV M M0 c := by
  intro v
  induction v with
  | p a b iha ihb =>
    intro h
    simp only [agV] at h
    obtain ⟨h1, h2⟩ := ihb h.2
    simp only [capL]
    rw [h1, sizeIs_liv a 1 h.1]
    refine ⟨rfl, fun cs hcs => ?_⟩
    cases hb : capL M0 b with
    | none => rw [hb] at hcs; cases hcs
    | some r =>
      rw [hb] at hcs
      simp only at hcs
      cases hz : sizeIs M0 a 1 with
      | false => rw [hz] at hcs; cases hcs
      | true =>
        rw [hz] at hcs
        simp only [cond_true, Option.some.injEq] at hcs
        subst hcs
        intro c hc
        rcases List.mem_cons.1 hc with rfl | hc
        · exact h.1
        · exact h2 r hb c hc
  | u => intro _; exact ⟨rfl, fun cs h => by simp only [capL, Option.some.injEq] at h; subst h; intro c hc; cases hc⟩
  | _ => intro _; exact ⟨rfl, fun cs h => by simp [capL] at h⟩
theorem fn_liv {x v : V} {f : FuncId} (h : agV M M0 x) (hf : fnOf x = some (f, v)) : agV M M0 v := by
  cases x with
  | fn g y => simp only [fnOf, Option.some.injEq, Prod.mk.injEq] at hf; obtain ⟨_, rfl⟩ := hf; exact h
  | d t y =>
    cases t with
    | fn g t => simp only [fnOf, Option.some.injEq, Prod.mk.injEq] at hf; obtain ⟨_, rfl⟩ := hf; exact liv_dat _ (dat_expl _ _)
    | _ => simp [fnOf] at hf
  | _ => simp [fnOf] at hf
theorem liv_strip {v : V} (h : agV M M0 v) : v.strip = v := by cases v <;> first | rfl | cases h
theorem agV_of {β : Nat → Value} {Im : Nat → Prop} {w : World} (hk : ∀ k, go M0 k ≠ none → go M k ≠ none → go M k = go M0 k) : ∀ (v : V), livV M0 v = true → ∀ vs, RelC β M Im w v vs → agV M M0 v := by
  have key : ∀ k, neg (isN (go M0 k)) = true → go M k ≠ none → agK M M0 k := fun k h h2 => by
    have : go M0 k ≠ none := fun e => by rw [e] at h; cases h
    exact ⟨hk k this h2, this⟩
  intro v
  induction v with
  | p a b iha ihb =>
    intro h vs r
    simp only [livV, nob_eq, Bool.and_eq_true] at h
    simp only [RelC] at r
    obtain ⟨va, vb, _, h1, h2⟩ := r
    exact ⟨iha h.1 _ h1, ihb h.2 _ h2⟩
  | ref j π =>
    intro h vs r
    simp only [RelC] at r
    obtain ⟨ob, _, h1, _⟩ := r
    exact key j h (by rw [h1]; simp)
  | ad j π =>
    intro h vs r
    simp only [RelC] at r
    obtain ⟨_, _, ob, _, _, _, h1, _⟩ := r
    exact key j h (by rw [h1]; simp)
  | fn f v ih =>
    intro h vs r
    simp only [RelC] at r
    obtain ⟨us, _, h1⟩ := r
    exact ih h _ h1
  | bx v ih =>
    intro h vs r
    simp only [RelC] at r
    obtain ⟨_, _, us, _, _, _, h1⟩ := r
    exact ih h _ h1
  | ag v => intro h vs r; simp only [RelC] at r
  | tup v => intro h; cases h
  | gd _ _ _ v => intro h; cases h
  | ifc _ v => intro h; cases h
  | _ => intro h vs r; trivial
theorem agS_of {β : Nat → Value} {Im : Nat → Prop} {w : World} (hk : ∀ k, go M0 k ≠ none → go M k ≠ none → go M k = go M0 k) (v : V) (h : livV M0 v = true) (u : Value) (r : RelS β M Im w v u) : agV M M0 v := by
  cases v with
  | ag v => simp only [RelS] at r; obtain ⟨vs, _, r⟩ := r; exact agV_of hk v h _ r
  | any => trivial
  | tup v => cases h
  | gd _ _ _ v => cases h
  | ifc _ v => cases h
  | p a b => simp only [RelS] at r; exact agV_of hk _ h _ r
  | u => trivial
  | ref j π => simp only [RelS] at r; exact agV_of hk _ h _ r
  | ad j π => simp only [RelS] at r; exact agV_of hk _ h _ r
  | d t x => trivial
  | nl => trivial
  | np => trivial
  | fn f v => simp only [RelS] at r; exact agV_of hk _ h _ r
  | bx v => simp only [RelS] at r; exact agV_of hk _ h _ r
theorem livOps_mem {env : Env} : ∀ {l : List Operand}, livOps M0 env l = true → ∀ x ∈ l, livV M0 (rd env x) = true
  | [], _, x, h => by cases h
  | y :: l, hd, x, h => by
    simp only [livOps, nob_eq, Bool.and_eq_true] at hd
    cases h with
    | head => exact hd.1
    | tail _ h => exact livOps_mem hd.2 x h
theorem rd_no {env : Env} (x : Operand) (h : ∀ t, x ≠ .tmp t) : agV M M0 (rd env x) := by
  cases x with
  | tmp t => exact absurd rfl (h t)
  | const v =>
    cases v with
    | slice a n m =>
      simp only [rd]
      cases a with
      | none =>
        simp only [rdV]
        cases nob (Nat.beq n 0) (Nat.beq m 0) <;> trivial
      | some _ => trivial
    | pointer a => cases a <;> trivial
    | _ => trivial
  | func f => trivial
  | global g => trivial
end

theorem bad_no {M : Mem} {vc : List Prop} {v : V} {e : List Ev} {N : Mem} (h : badR M = ⟨vc, v, e, N⟩) (hv : allP vc) : False := by
  simp only [badR, Rs.mk.injEq] at h
  rw [← h.1] at hv
  simp [allP] at hv
theorem allP_needs {f : Operand → V} {l : List Operand} {vc : List Prop} (h : allP (ap (needs f l) vc)) : allP vc := by rw [allP_ap] at h; exact h.2
theorem take_ap {ks : Mem} {r : Mem} : takeL (len (klL (keysM ks))) (ap ks r) = ks := by
  induction ks with
  | nil => simp [keysM, klL, len, takeL]
  | cons q ks ih => obtain ⟨k, ob⟩ := q; simp only [keysM, klL, len, ap, takeL]; rw [ih]
theorem klB_head {k : Nat} {ob : Ob} {r e : List Ev} {N : Mem} (h : klB (ap (.fz k ob :: r) e) N = true) : False := by cases N <;> simp [ap, klB] at h

theorem evCall_liv {M0 M : Mem} {ct : Ct} {d : Nat} {vs : List V} (hd : ∀ v ∈ vs, agV M M0 v) {vc : List Prop} {v : V} {e : List Ev} {N : Mem} (h : evCall ct d vs M0 = ⟨vc, v, e, N⟩) (hv : allP vc) (he : klB e (takeL (len e) N) = true) :
    evCall ct d vs M = ⟨vc, v, e, ap (takeL (len e) N) (delL (keysM (takeL (len e) N)) M)⟩ := by
  unfold evCall at h ⊢
  cases hmu : ct.mu with
  | some mu =>
   cases mu with
   | m m =>
    rw [hmu] at h
    exfalso
    simp only at h
    unfold evMark at h
    split at h
    · rename_i v0 kv
      generalize allT [shp [v0, kv] [m.g, false], nodupN (vkeys v0.cells), neg (nilK (vkeys v0.cells)), sameG (vkeys v0.cells)] = b at h
      cases b with
      | false => exact bad_no h hv
      | true =>
        simp only [cond_true] at h
        split at h
        · split at h
          · simp only [Rs.mk.injEq] at h
            obtain ⟨_, _, rfl, _⟩ := h
            generalize takeL (len _) N = N1 at he
            cases N1 <;> simp [klB] at he
          · exact bad_no h hv
        · exact bad_no h hv
    · exact bad_no h hv
   | w W =>
    rw [hmu] at h
    exfalso
    have hcut : ∀ (e : List Ev) (k : Nat) (o : O) (r : List Ev) (N : Mem), klB (ap e (.cut k o o :: r)) N = false := fun e k o r => by
      induction e with
      | nil => intro N; cases N <;> rfl
      | cons x e ih =>
        intro N
        cases x <;> cases N <;> first | rfl | (rename_i q N; obtain ⟨j, ob⟩ := q; simp only [ap, klB, ih, nob_eq, Bool.and_false])
    simp only at h
    unfold evWrite at h
    split at h
    · rename_i k π r
      generalize nob (isDe π) (shp r W.ag) = b at h
      cases b with
      | false => exact bad_no h hv
      | true =>
        simp only [cond_true] at h
        split at h
        · split at h
          · generalize inN k _ = b at h
            cases b with
            | true => exact bad_no h hv
            | false =>
              simp only [cond_false, Rs.mk.injEq] at h
              obtain ⟨_, _, rfl, _⟩ := h
              rw [hcut] at he; cases he
          · exact bad_no h hv
        · exact bad_no h hv
    · exact bad_no h hv
  | none =>
    rw [hmu] at h
    simp only at h ⊢
    cases hs : shp vs ct.ga with
    | false => rw [hs] at h; exact (bad_no h hv).elim
    | true =>
      rw [hs] at h
      simp only [cond_true] at h ⊢
      cases hsh : ct.sh with
      | false =>
        rw [hsh] at h
        simp only at h ⊢
        rw [viewL_liv vs ct.args hd]
        cases hx : viewL M0 vs ct.args with
        | none => rw [hx] at h; exact (bad_no h hv).elim
        | some x =>
          rw [hx] at h
          simp only at h ⊢
          generalize newL d 0 ct.rt (ct.res x) = q at h ⊢
          obtain ⟨v', N', _⟩ := q
          simp only [Rs.mk.injEq] at h ⊢
          obtain ⟨rfl, rfl, rfl, rfl⟩ := h
          rw [take_ap]
          exact ⟨rfl, rfl, rfl, rfl⟩
      | true =>
        rw [hsh] at h
        simp only at h ⊢
        rcases frzL_head vs M0 with hn | ⟨k, ob, r, hn⟩
        · have hf := frzL_nil vs hd hn
          rw [hf M0] at h
          rw [hf M]
          simp only [evsL_nil] at h ⊢
          cases hx : asL vs ct.args with
          | none => rw [hx] at h; exact (bad_no h hv).elim
          | some x =>
            rw [hx] at h
            simp only at h ⊢
            generalize newL d 0 ct.rt (ct.res x) = q at h ⊢
            obtain ⟨v', N', _⟩ := q
            simp only [Rs.mk.injEq] at h ⊢
            obtain ⟨rfl, rfl, rfl, rfl⟩ := h
            have : ∀ l : List Ev, ap [] l = l := fun _ => rfl
            rw [this, take_ap]
            exact ⟨rfl, rfl, rfl, rfl⟩
        · exfalso
          generalize frzL M0 vs = q at h hn
          obtain ⟨e1, M1⟩ := q
          simp only at hn h
          subst hn
          split at h
          · simp only [Rs.mk.injEq] at h
            obtain ⟨_, _, rfl, _⟩ := h
            exact klB_head he
          · exact bad_no h hv

theorem mapV_mem {f : Operand → V} : ∀ {l : List Operand} {v : V}, v ∈ mapV f l → ∃ x ∈ l, f x = v
  | [], v, h => by cases h
  | x :: r, v, h => by
    simp only [mapV] at h
    rcases List.mem_cons.1 h with rfl | h
    · exact ⟨x, by simp, rfl⟩
    · obtain ⟨y, h1, h2⟩ := mapV_mem h; exact ⟨y, by simp [h1], h2⟩

theorem hop_ok {M0 M : Mem} {o : Oper} {env : Env} (hk : hopK M0 o.op env = true) (ag : livOps M0 env (opds o.op) = true → ∀ x ∈ opds o.op, agV M M0 (rd env x)) {vc : List Prop} {v : V} {e : List Ev} {N : Mem} (h : evR B Φ o env M0 = ⟨vc, v, e, N⟩) (hv : allP vc) (he : klB e (takeL (len e) N) = true) :
    evR B Φ o env M = ⟨vc, v, e, ap (takeL (len e) N) (delL (keysM (takeL (len e) N)) M)⟩ := by
  have tk : ∀ N : Mem, takeL (len ([] : List Ev)) N = [] := fun _ => rfl
  obtain ⟨dst, op, ty', pos, after, guard⟩ := o
  simp only [hopK, orb_eq, nob_eq, Bool.or_eq_true, Bool.and_eq_true] at hk
  rcases hk with hk | ⟨hk | hk, hd⟩
  · cases op <;> simp only [memK, Bool.false_eq_true] at hk <;> simp only [evR, evOp, pureR, Rs.mk.injEq] at h ⊢ <;> obtain ⟨h1, h2, rfl, rfl⟩ := h <;> exact ⟨h1, h2, rfl, rfl⟩
  · have hm := ag hd
    cases op <;> simp only [pureK, Bool.false_eq_true] at hk <;> simp only [opds] at hm <;> simp only [evR, evOp, pureR, Rs.mk.injEq] at h ⊢ <;> obtain ⟨h1, h2, rfl, rfl⟩ := h
    case load t x =>
      have hx := hm x (by simp)
      rw [liv_strip hx, evLoad_liv _ _ hx, ← liv_strip hx]
      exact ⟨h1, h2, rfl, rfl⟩
    case fieldAddr t x i =>
      have hx := hm x (by simp)
      rw [liv_strip hx, evFldA_liv _ _ _ hx, ← liv_strip hx]
      exact ⟨h1, h2, rfl, rfl⟩
    case field t x i =>
      have hx := hm x (by simp)
      rw [liv_strip hx, evFld_liv _ _ _ hx, ← liv_strip hx]
      exact ⟨h1, h2, rfl, rfl⟩
    case indexAddr t x i =>
      have hx := hm x (by simp)
      rw [liv_strip hx, evIxA_liv _ _ _ hx, ← liv_strip hx]
      exact ⟨h1, h2, rfl, rfl⟩
    all_goals exact ⟨h1, h2, rfl, rfl⟩
  · have hm := ag hd
    cases op <;> simp only [newK, Bool.false_eq_true] at hk
    case alloc t =>
      simp only [evR, evOp, newB] at h ⊢
      cases dst with
      | none =>
        simp only [badR, Rs.mk.injEq] at h
        obtain ⟨rfl, _⟩ := h
        exact absurd (allP_needs hv) (by simp [allP])
      | some k =>
        simp only at h ⊢
        cases hb : allT [(B.τ t).ok, B.z t] with
        | false =>
          rw [hb] at h
          simp only [cond_false, badR, Rs.mk.injEq] at h
          obtain ⟨rfl, _⟩ := h
          exact absurd (allP_needs hv) (by simp [allP])
        | true =>
          rw [hb] at h
          simp only [cond_true, Rs.mk.injEq] at h ⊢
          obtain ⟨h1, h2, rfl, rfl⟩ := h
          exact ⟨h1, h2, rfl, rfl⟩
    case call c =>
      obtain ⟨callee, args, argTypes⟩ := c
      have hrd : ∀ x ∈ toL args, agV M M0 (rd env x).strip := fun x hx => by
        have := hm x (by simp only [opds, ap_eq]; exact List.mem_append_right _ hx)
        rw [liv_strip this]; exact this
      cases callee with
      | value cx =>
        have hc := hm cx (by simp only [opds, ap_eq, opds.calO]; exact List.mem_append_left _ (by simp))
        simp only [evR, evOp] at h ⊢
        cases hf : fnOf (rd env cx).strip with
        | none =>
          rw [hf] at h
          simp only [badR, Rs.mk.injEq] at h
          obtain ⟨rfl, _⟩ := h
          exact absurd (allP_needs hv) (by simp [allP])
        | some q =>
          obtain ⟨f, cv⟩ := q
          have hcv : agV M M0 cv := fn_liv (by rw [liv_strip hc]; exact hc) hf
          rw [hf] at h
          cases dst with
          | none =>
            simp only [badR, Rs.mk.injEq] at h
            obtain ⟨rfl, _⟩ := h
            exact absurd (allP_needs hv) (by simp [allP])
          | some d =>
            simp only at h ⊢
            obtain ⟨c1, c2⟩ := capL_liv cv hcv
            rw [c1]
            cases hp : Φ f with
            | none =>
              rw [hp] at h
              simp only [badR, Rs.mk.injEq] at h
              obtain ⟨rfl, _⟩ := h
              exact absurd (allP_needs hv) (by simp [allP])
            | some ct =>
              rw [hp] at h
              cases hcs : capL M0 cv with
              | none =>
                rw [hcs] at h
                simp only [badR, Rs.mk.injEq] at h
                obtain ⟨rfl, _⟩ := h
                exact absurd (allP_needs hv) (by simp [allP])
              | some cs =>
                rw [hcs] at h
                simp only at h ⊢
                have hall : ∀ y ∈ ap (mapV (fun x => (rd env x).strip) (toL args)) cs, agV M M0 y := fun y hy => by
                  rw [ap_eq] at hy
                  rcases List.mem_append.1 hy with hy | hy
                  · obtain ⟨x, x1, rfl⟩ := mapV_mem hy; exact hrd x x1
                  · exact c2 cs hcs y hy
                generalize hq : evCall ct d (ap (mapV (fun x => (rd env x).strip) (toL args)) cs) M0 = q at h
                obtain ⟨vc1, v1, e1, N1⟩ := q
                simp only [Rs.mk.injEq] at h
                obtain ⟨rfl, rfl, rfl, rfl⟩ := h
                rw [evCall_liv hall hq (allP_needs hv) he]
      | builtin b =>
        cases b <;> simp only [Bool.false_eq_true] at hk
        simp only [evR, evOp] at h ⊢
        split at h
        · rename_i x t e1 e2
          have hx := hrd x (by rw [e1]; simp)
          simp only [pureR, Rs.mk.injEq] at h ⊢
          rw [evLen_liv hx]
          obtain ⟨h1, h2, rfl, rfl⟩ := h
          exact ⟨h1, h2, rfl, rfl⟩
        · simp only [badR, Rs.mk.injEq] at h
          obtain ⟨rfl, _⟩ := h
          exact absurd (allP_needs hv) (by simp [allP])
      | _ => simp at hk

/-! ### what speaks of no tree that is gone -/

theorem noref_c {β : Nat → Value} {M : Mem} {Im : Nat → Prop} {w : World} {k : Nat} (hk : go M k = none) : ∀ (v : V) (vs : List Value), RelC β M Im w v vs → v.ev (.kl k) = v := by
  intro v
  induction v with
  | p a b iha ihb =>
    intro vs r
    simp only [RelC] at r
    obtain ⟨va, vb, _, h1, h2⟩ := r
    simp only [V.ev]; rw [iha _ h1, ihb _ h2]
  | ref j π =>
    intro vs r
    simp only [RelC] at r
    obtain ⟨ob, _, h1, _⟩ := r
    have hne : j ≠ k := fun h => by subst h; rw [hk] at h1; cases h1
    simp only [V.ev, Ev.ref, beq_cond, if_neg hne]
  | ad j π =>
    intro vs r
    simp only [RelC] at r
    obtain ⟨_, _, ob, _, _, _, h1, _⟩ := r
    have hne : j ≠ k := fun h => by subst h; rw [hk] at h1; cases h1
    simp only [V.ev, Ev.ad, beq_cond, if_neg hne]
  | fn f v ih =>
    intro vs r
    simp only [RelC] at r
    obtain ⟨us, _, h⟩ := r
    simp only [V.ev]; rw [ih _ h]
  | bx v ih =>
    intro vs r
    simp only [RelC] at r
    obtain ⟨_, _, us, _, _, _, h⟩ := r
    simp only [V.ev]; rw [ih _ h]
  | ag v => intro vs r; simp only [RelC] at r
  | tup v => intro vs r; simp only [RelC] at r
  | gd _ _ _ v => intro vs r; simp only [RelC] at r
  | ifc _ v => intro vs r; simp only [RelC] at r
  | _ => intro vs r; rfl

theorem noref_st {β : Nat → Value} {M : Mem} {Im : Nat → Prop} {w : World} {k : Nat} (hk : go M k = none) : ∀ (v : V), noGdV v = true → (∀ u, RelS β M Im w v u → v.ev (.kl k) = v) ∧ (∀ us, RelT β M Im w v us → v.ev (.kl k) = v) := by
  intro v
  induction v with
  | any => intro _; exact ⟨fun _ _ => rfl, fun _ _ => rfl⟩
  | ag v ih =>
    intro _
    refine ⟨fun u r => ?_, fun us r => ?_⟩
    · simp only [RelS] at r; obtain ⟨vs, _, h⟩ := r; simp only [V.ev]; rw [noref_c hk _ _ h]
    · simp only [RelT] at r
  | tup v ih =>
    intro hg
    refine ⟨fun u r => ?_, fun us r => ?_⟩
    · simp only [RelS] at r; obtain ⟨vs, _, h⟩ := r; simp only [V.ev]; rw [(ih hg).2 _ h]
    · simp only [RelT] at r
  | gd _ _ _ v => intro hg; cases hg
  | ifc t v ih =>
    intro hg
    refine ⟨fun u r => ?_, fun us r => ?_⟩
    · simp only [RelS] at r; obtain ⟨vs, _, h⟩ := r; simp only [V.ev]; rw [(ih hg).1 _ h]
    · simp only [RelT] at r
  | p a b iha ihb =>
    intro hg
    simp only [noGdV, nob_eq, Bool.and_eq_true] at hg
    refine ⟨fun u r => ?_, fun us r => ?_⟩
    · simp only [RelS] at r; exact noref_c hk _ _ r
    · simp only [RelT] at r
      obtain ⟨u, us', _, h1, h2⟩ := r
      simp only [V.ev]; rw [(iha hg.1).1 _ h1, (ihb hg.2).2 _ h2]
  | u => intro _; exact ⟨fun _ _ => rfl, fun _ _ => rfl⟩
  | ref j π => intro _; exact ⟨fun u r => by simp only [RelS] at r; exact noref_c hk _ _ r, fun us r => by simp only [RelT] at r⟩
  | ad j π => intro _; exact ⟨fun u r => by simp only [RelS] at r; exact noref_c hk _ _ r, fun us r => by simp only [RelT] at r⟩
  | d t x => intro _; exact ⟨fun _ _ => rfl, fun _ _ => rfl⟩
  | nl => intro _; exact ⟨fun _ _ => rfl, fun _ _ => rfl⟩
  | np => intro _; exact ⟨fun _ _ => rfl, fun _ _ => rfl⟩
  | fn f v => intro _; exact ⟨fun u r => by simp only [RelS] at r; exact noref_c hk _ _ r, fun us r => by simp only [RelT] at r⟩
  | bx v => intro _; exact ⟨fun u r => by simp only [RelS] at r; exact noref_c hk _ _ r, fun us r => by simp only [RelT] at r⟩

theorem klB_evs : ∀ {e : List Ev} {N : Mem}, klB e N = true → ∀ {v : V}, (∀ k ∈ keysM N, v.ev (.kl k) = v) → v.evs e = v
  | [], [], _, v, _ => rfl
  | [], _ :: _, h, _, _ => by simp [klB] at h
  | x :: e, [], h, _, _ => by cases x <;> simp [klB] at h
  | x :: e, (j, ob) :: N, h, v, hk => by
    cases x with
    | kl k =>
      simp only [klB, nob_eq, Bool.and_eq_true] at h
      have := Nat.eq_of_beq_eq_true h.1
      subst this
      simp only [V.evs]
      rw [hk k (by simp [keysM])]
      exact klB_evs h.2 fun k hk' => hk k (by simp [keysM, hk'])
    | _ => simp [klB] at h
theorem noKey_go : ∀ {ks : List Nat} {M : Mem}, noKey ks M = true → ∀ k ∈ ks, go M k = none
  | [], _, _, k, hk => by cases hk
  | j :: r, M, h, k, hk => by
    simp only [noKey, nob_eq, Bool.and_eq_true] at h
    rcases List.mem_cons.1 hk with rfl | hk
    · cases hg : go M k with
      | none => rfl
      | some _ => rw [hg] at h; exact absurd h.1 (by simp [isN])
    · exact noKey_go h.2 k hk
theorem keys_go : ∀ {N : Mem} {k : Nat}, k ∈ keysM N ↔ go N k ≠ none
  | [], k => by simp [keysM, go]
  | (j, ob) :: N, k => by
    simp only [keysM, List.mem_cons, go_cons]
    by_cases e : j = k
    · subst e; simp
    · rw [if_neg e, ← keys_go (N := N)]
      simp [Ne.symm e]
theorem delL_go : ∀ {ks : List Nat} {M : Mem} {k : Nat}, k ∉ ks → go (delL ks M) k = go M k
  | [], _, _, _ => rfl
  | j :: r, M, k, h => by
    simp only [delL]
    rw [delL_go (fun hh => h (by simp [hh])), go_del_ne (fun hh => h (by simp [hh]))]
theorem noGdE_gt {t : Nat} : ∀ {env : Env}, noGdE env = true → noGdV (gt env t) = true
  | [], _ => rfl
  | (k, v) :: r, h => by
    simp only [noGdE, nob_eq, Bool.and_eq_true] at h
    rw [gt_cons]
    split
    · exact h.1
    · exact noGdE_gt h.2

/-! ### the steps of the text -/

structure Hst (B : Tab) (Φ : FuncId → Option Ct) (M0 : Mem) (o : Oper) (e e' : Env) (N : Mem) (X X' : Mem) (d : Nat) (v : V) (vc : List Prop) (ev : List Ev) : Prop where
  g : o.guard = none
  dst : o.dst = some d
  k : hopK (ap X M0) o.op e = true
  r : ∃ N', evR B Φ o e (ap X M0) = ⟨vc, v, ev, N'⟩ ∧ N = takeL (len ev) N'
  hv : allP vc
  kl : klB ev N = true
  n0 : noKey (keysM N) M0 = true
  nX : noKey (keysM N) X = true
  gd : noGdV v = true
  he : e' = (d, v) :: e
  x : X' = ap N X

theorem hx_steps {M0 : Mem} : ∀ (ops : List Oper) (e : Env) (x : Mem) (K : Env → Mem → Prop), hx B Φ M0 ops e x K →
    ∃ (E : Nat → Env) (X N : Nat → Mem), E 0 = e ∧ X 0 = x ∧ (∀ j o, ops[j]? = some o → ∃ d v vc ev, Hst B Φ M0 o (E j) (E (j + 1)) (N j) (X j) (X (j + 1)) d v vc ev) ∧ K (E ops.length) (X ops.length)
  | [], e, x, K, h => ⟨fun _ => e, fun _ => x, fun _ => [], rfl, rfl, fun j o h => by simp at h, h⟩
  | o :: r, e, x, K, h => by
    have key : ∃ e' x' N, (∃ d v vc ev, Hst B Φ M0 o e e' N x x' d v vc ev) ∧ hx B Φ M0 r e' x' K := by
      simp only [hx] at h
      split at h
      · rename_i d hg hd
        cases hk : hopK (ap x M0) o.op e with
        | false => rw [hk] at h; exact h.elim
        | true =>
          rw [hk] at h
          simp only [cond_true] at h
          generalize hq : evR B Φ o e (ap x M0) = q at h
          obtain ⟨vc, v, ev, N'⟩ := q
          simp only at h
          generalize hN : takeL (len ev) N' = N at h
          cases hb : allT [klB ev N, noKey (keysM N) M0, noKey (keysM N) x, noGdV v] with
          | false => rw [hb] at h; exact h.elim
          | true =>
            rw [hb] at h
            simp only [cond_true, conj_iff] at h
            simp only [allT_cons, allT_nil, Bool.and_true, Bool.and_eq_true] at hb
            exact ⟨_, _, N, ⟨d, v, vc, ev, ⟨hg, hd, hk, ⟨N', hq, hN.symm⟩, h.1, hb.1, hb.2.1, hb.2.2.1, hb.2.2.2, rfl, rfl⟩⟩, h.2⟩
      · exact h.elim
    obtain ⟨e', x', N, h1, h2⟩ := key
    obtain ⟨E, X, Ns, i1, i2, i3, i4⟩ := hx_steps r e' x' K h2
    refine ⟨fun j => match j with | 0 => e | j + 1 => E j, fun j => match j with | 0 => x | j + 1 => X j, fun j => match j with | 0 => N | j + 1 => Ns j, rfl, rfl, fun j o' hj => ?_, by simpa using i4⟩
    cases j with
    | zero =>
      simp only [List.getElem?_cons_zero, Option.some.injEq] at hj
      subst hj
      simp only
      rw [i1, i2]
      exact h1
    | succ j =>
      simp only [List.getElem?_cons_succ] at hj
      exact i3 j o' hj

/-! ### what may be carried out among the rest -/

theorem isN_none {α : Type} {x : Option α} (h : isN x = true) : x = none := by cases x <;> first | rfl | cases h

def FlI (x : Oper) (env : Env) (y : V) : Prop :=
  (∃ t0, (x.op = .move (.tmp t0) ∨ x.op = .assign (.tmp t0)) ∧ isGd (gt env t0) = false ∧ gt env t0 = y) ∨ (∃ t0 k v, x.op = .extract (.tmp t0) k ∧ gt env t0 = .tup v ∧ nth v k = some y)

theorem isGd_ev (e : Ev) (v : V) (h : isGd v = false) : isGd (v.ev e) = false := by
  cases v with
  | ref k π => simp only [V.ev]; exact isGd_ref k π e
  | ad k π => simp only [V.ev]; exact isGd_ad k π e
  | gd _ _ _ _ => cases h
  | _ => rfl
theorem isGd_evs : ∀ (e : List Ev) (v : V), isGd v = false → isGd (v.evs e) = false
  | [], _, h => h
  | x :: e, v, h => by simp only [V.evs]; exact isGd_evs e _ (isGd_ev x v h)
theorem nth_ev (e : Ev) : ∀ (v : V) (k : Nat) (y : V), nth v k = some y → nth (v.ev e) k = some (y.ev e)
  | .p a b, 0, y, h => by simp only [nth, Option.some.injEq] at h; subst h; rfl
  | .p a b, k + 1, y, h => by simp only [nth] at h; simp only [V.ev, nth]; exact nth_ev e b k y h
  | .any, _, _, h => by simp [nth] at h
  | .nl, _, _, h => by simp [nth] at h
  | .np, _, _, h => by simp [nth] at h
  | .u, _, _, h => by simp [nth] at h
  | .d _ _, _, _, h => by simp [nth] at h
  | .ref _ _, _, _, h => by simp [nth] at h
  | .ad _ _, _, _, h => by simp [nth] at h
  | .ag _, _, _, h => by simp [nth] at h
  | .tup _, _, _, h => by simp [nth] at h
  | .gd _ _ _ _, _, _, h => by simp [nth] at h
  | .fn _ _, _, _, h => by simp [nth] at h
  | .ifc _ _, _, _, h => by simp [nth] at h
  | .bx _, _, _, h => by simp [nth] at h
theorem nth_evs : ∀ (e : List Ev) (v : V) (k : Nat) (y : V), nth v k = some y → nth (v.evs e) k = some (y.evs e)
  | [], _, _, _, h => h
  | x :: e, v, k, y, h => by simp only [V.evs]; exact nth_evs e _ k _ (nth_ev x v k y h)
theorem tup_evs : ∀ (e : List Ev) (v : V), (V.tup v).evs e = .tup (v.evs e)
  | [], _ => rfl
  | x :: e, v => by simp only [V.evs, V.ev]; exact tup_evs e _

theorem FlI.look {x : Oper} {env : Env} {y : V} (h : FlI x env y) : ∃ t0, Operand.tmp t0 ∈ x.op.operands ∧ (∀ env' e, gt env' t0 = (gt env t0).evs e → FlI x env' (y.evs e)) := by
  rcases h with ⟨t0, ho, hg, rfl⟩ | ⟨t0, k, v, ho, hv, hn⟩
  · refine ⟨t0, by rcases ho with ho | ho <;> simp [ho, Op.operands], fun env' e he => .inl ⟨t0, ho, ?_, he⟩⟩
    rw [he]; exact isGd_evs e _ hg
  · refine ⟨t0, by simp [ho, Op.operands], fun env' e he => .inr ⟨t0, k, v.evs e, ho, ?_, nth_evs e v k y hn⟩⟩
    rw [he, hv, tup_evs]
theorem FlI.run {x : Oper} {env : Env} {y : V} {M : Mem} (h : FlI x env y) : evR B Φ x env M = ⟨[], y, [], M⟩ := by
  have ns : ∀ v : V, isGd v = false → v.strip = v := fun v hv => by cases v <;> first | rfl | cases hv
  have nn : ∀ t, isGd (gt env t) = false → needs (rd env) [.tmp t] = [] := fun t ht => by
    simp only [needs, rd]
    split
    · rename_i e; rw [e] at ht; cases ht
    · rfl
  rcases h with ⟨t0, ho, hg, rfl⟩ | ⟨t0, k, v, ho, hv, hn⟩
  · rcases ho with ho | ho <;> simp only [evR, ho, evOp, pureR, opds, nn t0 hg, ap, rd, ns _ hg]
  · have hg : isGd (gt env t0) = false := by rw [hv]; rfl
    have hs : (V.tup v).strip = .tup v := rfl
    simp only [evR, ho, evOp, pureR, opds, nn t0 hg, ap, rd, hv, hs, evExt, hn, good]
theorem FlI.of {x : Oper} {env : Env} {M M' : Mem} {vc : List Prop} {v : V} {e : List Ev} (hx : fltO x.op = true) (hn : ∀ t, isGd (gt env t) = false) (h : evR B Φ x env M = ⟨vc, v, e, M'⟩) (hv : allP vc) : FlI x env v := by
  have ns : ∀ v : V, isGd v = false → v.strip = v := fun v hv => by cases v <;> first | rfl | cases hv
  unfold fltO at hx
  split at hx
  · rename_i t0 ho
    simp only [evR, ho, evOp, pureR, rd, ns _ (hn t0), Rs.mk.injEq] at h
    exact .inl ⟨t0, .inl ho, hn t0, h.2.1⟩
  · rename_i t0 ho
    simp only [evR, ho, evOp, pureR, rd, ns _ (hn t0), Rs.mk.injEq] at h
    exact .inl ⟨t0, .inr ho, hn t0, h.2.1⟩
  · rename_i t0 k ho
    simp only [evR, ho, evOp, pureR, rd, ns _ (hn t0), Rs.mk.injEq] at h
    obtain ⟨h1, h2, _⟩ := h
    rw [← h1] at hv
    have hv := allP_needs hv
    unfold evExt at hv h2
    split at hv
    · rename_i w hw
      split at hv
      · rename_i y hy
        rw [hw] at h2
        simp only [hy, good] at h2
        exact .inr ⟨t0, k, w, ho, hw, by rw [← h2]; exact hy⟩
      · exact absurd hv (by simp [bad, allP])
    · exact absurd hv (by simp [bad, allP])
  · cases hx

/-! ### any order -/

section
variable {F : Fr} {all : Array Oper} {m : Nat} {E : Nat → Env} {X N : Nat → Mem} {M0 : Mem}

structure Hctx (B : Tab) (Φ : FuncId → Option Ct) (all : Array Oper) (m : Nat) (E : Nat → Env) (X N : Nat → Mem) (M0 : Mem) : Prop where
  hb : backs 0 all.toList = true
  hm : m ≤ all.size
  ht : okFl all (masks [] all.toList) m = true
  hf : okFf all (masks [] all.toList) m = true
  hdr : okDraw all (masks [] all.toList) m = true
  hE : ∀ (j : Nat) (o : Oper), all[j]? = some o → j < m → ∃ d v vc ev, Hst B Φ M0 o (E j) (E (j + 1)) (N j) (X j) (X (j + 1)) d v vc ev
  hX : X 0 = []
  h0 : ∀ t, noGdV (gt (E 0) t) = true

structure Hsta (all : Array Oper) (m : Nat) (E : Nat → Env) (N : Nat → Mem) (M0 : Mem) (listed : Array Bool) (env : Env) (M : Mem) : Prop where
  a : ∀ t, (∀ (i : Nat) (o : Oper), all[i]? = some o → isL listed i → o.dst ≠ some t) → gt env t = gt (E 0) t
  b : ∀ (i : Nat) (o : Oper) (t : Nat), all[i]? = some o → isL listed i → o.dst = some t → gt env t = gt (E (i + 1)) t
  c : ∀ k, (∀ (i : Nat), i < all.size → isL listed i → k ∉ keysM (N i)) → go M k = go M0 k
  d : ∀ (i : Nat) (k : Nat), i < all.size → isL listed i → k ∈ keysM (N i) → go M k = go (N i) k

theorem Hctx.get (C : Hctx B Φ all m E X N M0) {i : Nat} (h : i < m) : all[i]? = some (all[i]'(Nat.lt_of_lt_of_le h C.hm)) := Array.getElem?_eq_getElem _

theorem Hctx.xs (C : Hctx B Φ all m E X N M0) : ∀ (j : Nat), j ≤ m → ∀ k, (∀ i, i < j → k ∈ keysM (N i) → go (X j) k = go (N i) k ∧ ∀ i', i' < j → k ∈ keysM (N i') → i' = i) ∧ ((∀ i, i < j → k ∉ keysM (N i)) → go (X j) k = none)
  | 0, _, k => ⟨fun i h => by omega, fun _ => by rw [C.hX]; rfl⟩
  | j + 1, hj, k => by
    obtain ⟨d, v, vc, ev, H⟩ := C.hE j _ (C.get (by omega)) (by omega)
    obtain ⟨h1, h2⟩ := C.xs j (by omega) k
    rw [H.x, go_ap]
    by_cases hkj : k ∈ keysM (N j)
    · have hn := noKey_go H.nX k hkj
      have none_old : ∀ i, i < j → k ∉ keysM (N i) := fun i hi hk => by
        have := (h1 i hi hk).1
        rw [hn] at this
        exact keys_go.1 hk this.symm
      obtain ⟨ob, hob⟩ : ∃ ob, go (N j) k = some ob := by
        cases hg : go (N j) k with
        | none => exact absurd hg (keys_go.1 hkj)
        | some ob => exact ⟨ob, rfl⟩
      refine ⟨fun i hi hk => ?_, fun h => absurd hkj (h j (by omega))⟩
      have hij : i = j := by
        rcases Nat.lt_or_ge i j with h | h
        · exact absurd hk (none_old i h)
        · omega
      subst hij
      rw [hob]
      refine ⟨rfl, fun i' hi' hk' => ?_⟩
      rcases Nat.lt_or_ge i' i with h | h
      · exact absurd hk' (none_old i' h)
      · omega
    · have hgn : go (N j) k = none := by
        cases hg : go (N j) k with
        | none => rfl
        | some ob => exact absurd (keys_go.2 (by rw [hg]; simp)) hkj
      rw [hgn]
      simp only
      refine ⟨fun i hi hk => ?_, fun h => h2 fun i hi => h i (by omega)⟩
      have hij : i < j := by
        rcases Nat.lt_or_ge i j with h | h
        · exact h
        · have : i = j := by omega
          subst this; exact absurd hk hkj
      refine ⟨(h1 i hij hk).1, fun i' hi' hk' => ?_⟩
      have hij' : i' < j := by
        rcases Nat.lt_or_ge i' j with h | h
        · exact h
        · have : i' = j := by omega
          subst this; exact absurd hk' hkj
      exact (h1 i hij hk).2 i' hij' hk'

theorem Hctx.uniq (C : Hctx B Φ all m E X N M0) {i j : Nat} {x y : Oper} {t : Nat} (hi : i < m) (hj : j < m) (hx : all[i]? = some x) (hy : all[j]? = some y) (h1 : x.dst = some t) (h2 : y.dst = some t) : i = j := by
  rcases Nat.decEq i j with h | h
  · exact absurd h2 (okPair_dst (okDraw_spec C.hdr hi hj h hx hy) h1)
  · exact h

theorem Hctx.gts (C : Hctx B Φ all m E X N M0) (j t : Nat) (hj : j ≤ m) :
    ((∀ (i : Nat) (o : Oper), all[i]? = some o → i < j → o.dst ≠ some t) → gt (E j) t = gt (E 0) t) ∧
    (∀ (i : Nat) (o : Oper), all[i]? = some o → i < j → o.dst = some t → gt (E j) t = gt (E (i + 1)) t) := by
  have hm := C.hm
  have hlen : (all.toList.take m).length = m := by simp [hm]
  have take_lt : ∀ {i : Nat} {o : Oper}, (all.toList.take m)[i]? = some o → i < m ∧ all[i]? = some o := fun {i o} h => by
    have h1 := (List.getElem?_eq_some_iff.1 h).1
    rw [hlen] at h1
    rw [List.getElem?_take_of_lt h1, toList_get] at h
    exact ⟨h1, h⟩
  have lt_take : ∀ {i : Nat} {o : Oper}, i < m → all[i]? = some o → (all.toList.take m)[i]? = some o := fun {i o} h1 h => by
    rw [List.getElem?_take_of_lt h1, toList_get]; exact h
  have hw : ∀ (j : Nat) (o : Oper), (all.toList.take m)[j]? = some o → E (j + 1) = wr o.dst (match all[j]? with | some o => (match o.dst with | some d => gt (E (j + 1)) d | none => .any) | none => .any) (E j) := fun j o hj => by
    obtain ⟨h1, h2⟩ := take_lt hj
    obtain ⟨d, v, vc, ev, H⟩ := C.hE j o h2 h1
    rw [h2]
    simp only [H.dst, wr]
    rw [H.he]
    simp only [gt_cons, if_true]
  obtain ⟨a1, a2⟩ := steps_gt hw j t (by omega)
  refine ⟨fun h => a1 fun i o hi => h i o (take_lt hi).2, fun i o hi hlt hd => ?_⟩
  rw [a2 i o (lt_take (by omega) hi) hlt hd fun i' o' hi' hl' hd' => C.uniq (take_lt hi').1 (by omega) (take_lt hi').2 hi hd' hd]
  simp only [hi, hd]

/-- one operation, wherever it comes -/
theorem Hctx.step (C : Hctx B Φ all m E X N M0) {listed : Array Bool} (hs : listed.size = all.size) (hl : ∀ i, i < all.size → isL listed i → i < m) (hdn : Down all listed) {env : Env} {M : Mem} (S : Hsta all m E N M0 listed env M) {p : Ow} {a : Act} {w : World} (hst : St F p env M a w)
    {j : Nat} {o : Oper} (ho : all[j]? = some o) (hjm : j < m) (hnl : ¬ isL listed j)
    (hrd : ∀ e ∈ o.after, Region.binds .any e = true → isL listed e.on) : tw B Φ (toL all) [o] env M (fun env' M' => Hsta all m E N M0 (listed.setIfInBounds j true) env' M') := by
  have hjs := (Array.getElem?_eq_some_iff.1 ho).1
  have hset : ∀ i, isL (listed.setIfInBounds j true) i ↔ i = j ∨ isL listed i := fun i => isL_set (by rw [hs]; exact hjs)
  have hlm : ∀ {i : Nat} {x : Oper}, all[i]? = some x → isL listed i → i < m := fun h1 h2 => hl _ (Array.getElem?_eq_some_iff.1 h1).1 h2
  have hlook : ∀ t ∈ o.looksAt all, gt env t = gt (E j) t := fun t htl => by
    by_cases hw : ∃ (i : Nat) (x : Oper), all[i]? = some x ∧ i < m ∧ x.dst = some t
    · obtain ⟨i, x, e1, e2, e3⟩ := hw
      by_cases hij : i < j
      · have hpair := okPair_look (okDraw_spec C.hdr e2 hjm (by omega) e1 ho) e3 htl
        rw [if_pos hij] at hpair
        have hli := mask_listed hdn C.hb j o ho hrd i hpair
        rw [S.b i x t e1 hli e3, (C.gts j t (by omega)).2 i x e1 hij e3]
      · have hnli : ¬ isL listed i := fun hli => by
          by_cases e : i = j
          · subst e; exact hnl hli
          · have hpair := okPair_look (okDraw_spec C.hdr e2 hjm e e1 ho) e3 htl
            rw [if_neg hij] at hpair
            exact hnl (mask_listed hdn C.hb i x e1 (fun e' he' hb' => hdn i x e1 hli e' he' hb') j hpair)
        rw [S.a t fun i' o' h1' h2' h3' => hnli (C.uniq (hlm h1' h2') e2 h1' e1 h3' e3 ▸ h2')]
        exact ((C.gts j t (by omega)).1 fun i' o' h1' h2' h3' => hij (C.uniq (by omega) e2 h1' e1 h3' e3 ▸ h2')).symm
    · rw [S.a t fun i x h1 h2 h3 => hw ⟨i, x, h1, hlm h1 h2, h3⟩]
      exact ((C.gts j t (by omega)).1 fun i x h1 h2 h3 => hw ⟨i, x, h1, by omega, h3⟩).symm
  have hrdE : ∀ x ∈ o.op.operands, rd env x = rd (E j) x := fun x hx => by
    cases x with
    | tmp t => exact hlook t (List.mem_append_left _ (List.mem_filterMap.2 ⟨.tmp t, by simpa using hx, rfl⟩))
    | const c => rfl
    | global g => rfl
    | func f => rfl
  obtain ⟨d, v, vc, ev, H⟩ := C.hE j o ho hjm
  have hkey : ∀ k, go (ap (X j) M0) k ≠ none → go M k ≠ none → go M k = go (ap (X j) M0) k := fun k h1 h2 => by
    obtain ⟨x1, x2⟩ := C.xs j (by omega) k
    rw [go_ap] at h1 ⊢
    by_cases hw : ∃ i, i < m ∧ k ∈ keysM (N i)
    · obtain ⟨i, hi, hk⟩ := hw
      have gone : go M0 k = none := by
        obtain ⟨d', v', vc', ev', H'⟩ := C.hE i _ (C.get hi) hi
        exact noKey_go H'.n0 k hk
      have one : ∀ i', i' < m → k ∈ keysM (N i') → i' = i := fun i' hi' hk' => ((C.xs m (Nat.le_refl _) k).1 i hi hk).2 i' hi' hk'
      have hli : isL listed i := Classical.byContradiction fun hn => h2 (by
        rw [S.c k fun i' hi' hl' hk' => hn (one i' (hl i' hi' hl') hk' ▸ hl'), gone])
      rw [S.d i k (Nat.lt_of_lt_of_le hi C.hm) hli hk]
      by_cases hij : i < j
      · rw [(x1 i hij hk).1]
        cases hg : go (N i) k with
        | none => exact absurd hg (keys_go.1 hk)
        | some ob => rfl
      · rw [x2 fun i' hi' hk' => hij (one i' (by omega) hk' ▸ hi'), gone] at h1
        exact absurd rfl h1
    · rw [x2 fun i hi hk => hw ⟨i, by omega, hk⟩]
      simp only
      exact S.c k fun i hi hli hk => hw ⟨i, hl i hi hli, hk⟩
  have agr : livOps (ap (X j) M0) (E j) (opds o.op) = true → ∀ x ∈ opds o.op, agV M (ap (X j) M0) (rd (E j) x) := fun hlv x hx => by
    by_cases hxt : ∃ t, x = .tmp t
    · obtain ⟨t, rfl⟩ := hxt
      have hrel := hst.slots t
      have e1 : gt env t = gt (E j) t := by simpa only [rd] using hrdE (.tmp t) (opds_sub o _ hx)
      rw [e1] at hrel
      exact agS_of hkey _ (livOps_mem hlv _ hx) _ hrel
    · exact rd_no x fun t h => hxt ⟨t, h⟩
  have hr : evR B Φ o env M = ⟨vc, v, ev, ap (N j) (delL (keysM (N j)) M)⟩ := by
    rw [evR_congr o hrdE]
    obtain ⟨N', hr, hN⟩ := H.r
    have hkl := H.kl
    rw [hN] at hkl ⊢
    exact hop_ok H.k agr hr H.hv hkl
  have hdis : ∀ i, i < all.size → isL listed i → ∀ k, k ∈ keysM (N i) → k ∉ keysM (N j) := fun i hi hli k h1 h2 => by
    have him := hl i hi hli
    have := ((C.xs m (Nat.le_refl _) k).1 i him h1).2 j hjm h2
    subst this; exact hnl hli
  have hgone : ∀ k ∈ keysM (N j), go M k = none := fun k hk => by
    rw [S.c k fun i hi hli h => hdis i hi hli k h hk]
    exact noKey_go H.n0 k hk
  have hng : ∀ t, noGdV (gt env t) = true := fun t => by
    by_cases hw : ∃ (i : Nat) (x : Oper), all[i]? = some x ∧ isL listed i ∧ x.dst = some t
    · obtain ⟨i, x, e1, e2, e3⟩ := hw
      rw [S.b i x t e1 e2 e3]
      obtain ⟨d', v', vc', ev', H'⟩ := C.hE i x e1 (hlm e1 e2)
      have : d' = t := by have := H'.dst; rw [e3] at this; exact (Option.some.inj this).symm
      subst this
      rw [H'.he, gt_cons, if_pos rfl]
      exact H'.gd
    · rw [S.a t fun i x h1 h2 h3 => hw ⟨i, x, h1, h2, h3⟩]
      exact C.h0 t
  have stab : ∀ t, gt (evEs env ev) t = gt env t := fun t => by
    rw [gt_evEs]
    exact klB_evs H.kl fun k hk => (noref_st (hgone k hk) (gt env t) (hng t)).1 _ (hst.slots t)
  simp only [tw, H.g, hr, conj_iff, H.dst, wr]
  refine ⟨H.hv, fun t ht => ?_, fun i x t hi hli hdx => ?_, fun k hk => ?_, fun i k hi hli hk => ?_⟩
  · have htd : d ≠ t := fun h => ht j o ho ((hset j).2 (.inl rfl)) (by rw [H.dst, h])
    rw [gt_cons, if_neg htd, stab]
    exact S.a t fun i x hi hl' => ht i x hi ((hset i).2 (.inr hl'))
  · rw [gt_cons]
    by_cases hij : i = j
    · subst hij; rw [ho] at hi; cases hi; rw [H.dst] at hdx; cases hdx
      rw [if_pos rfl, H.he, gt_cons, if_pos rfl]
    · have hli' := ((hset i).1 hli).resolve_left hij
      have htd : d ≠ t := fun h => hij (C.uniq (hlm hi hli') hjm hi ho hdx (by rw [H.dst, h]))
      rw [if_neg htd, stab]
      exact S.b i x t hi hli' hdx
  · have hkj : k ∉ keysM (N j) := hk j hjs ((hset j).2 (.inl rfl))
    have hgn : go (N j) k = none := by
      cases hg : go (N j) k with
      | none => rfl
      | some ob => exact absurd (keys_go.2 (by rw [hg]; simp)) hkj
    rw [go_ap, hgn]
    simp only
    rw [delL_go hkj]
    exact S.c k fun i hi hli => hk i hi ((hset i).2 (.inr hli))
  · rw [go_ap]
    by_cases hij : i = j
    · subst hij
      cases hg : go (N i) k with
      | none => exact absurd hg (keys_go.1 hk)
      | some ob => rfl
    · have hli' := ((hset i).1 hli).resolve_left hij
      have hkj := hdis i hi hli' k hk
      have hgn : go (N j) k = none := by
        cases hg : go (N j) k with
        | none => rfl
        | some ob => exact absurd (keys_go.2 (by rw [hg]; simp)) hkj
      rw [hgn]
      simp only
      rw [delL_go hkj]
      exact S.d i k hi hli' hk

theorem okFl_spec {ms : List Nat} (h : okFl all ms m = true) {j : Nat} (hm : m ≤ j) {y : Oper} (hy : all[j]? = some y) : y.guard = none ∧ ∀ i, i < j → (ms.getD j 0).testBit i = true ∨ (i < m ∧ ∃ x, all[i]? = some x ∧ flt all x y = true) := by
  have hj := (Array.getElem?_eq_some_iff.1 hy).1
  have := List.all_eq_true.1 h j (by simpa using hj)
  rw [hy] at this
  simp only [Bool.or_eq_true, Bool.and_eq_true] at this
  rcases this with h1 | ⟨h1, h2⟩
  · rw [Nat.blt_eq] at h1; omega
  · refine ⟨isN_none h1, fun i hi => ?_⟩
    have h3 := List.all_eq_true.1 h2 i (by simpa using hi)
    simp only [Bool.or_eq_true, Bool.and_eq_true] at h3
    rcases h3 with h3 | ⟨h3, h4⟩
    · exact .inl h3
    · right
      rw [Nat.blt_eq] at h3
      refine ⟨h3, ?_⟩
      cases hx : all[i]? with
      | none => rw [hx] at h4; cases h4
      | some x => rw [hx] at h4; exact ⟨x, rfl, h4⟩
theorem flt_spec {x y : Oper} (h : flt all x y = true) : x.guard = none ∧ fltO x.op = true ∧ ∃ t, x.dst = some t ∧ t ∉ y.looksAt all ∧ ∀ u, y.dst = some u → u ≠ t ∧ u ∉ x.looksAt all := by
  unfold flt at h
  simp only [nob_eq, Bool.and_eq_true] at h
  obtain ⟨h1, h2, h3⟩ := h
  refine ⟨isN_none h1, h2, ?_⟩
  cases hd : x.dst with
  | none => rw [hd] at h3; cases h3
  | some t =>
    rw [hd] at h3
    simp only [nob_eq, Bool.and_eq_true, neg_eq, Bool.not_eq_true'] at h3
    refine ⟨t, rfl, fun ht => ?_, fun u hu => ?_⟩
    · have : (looks all y).contains t = true := by simpa [looks] using ht
      rw [h3.1] at this; cases this
    · rw [hu] at h3
      have h4 := h3.2
      simp only [Bool.and_eq_true, Bool.not_eq_true'] at h4
      refine ⟨fun e => ?_, fun ht => ?_⟩
      · subst e; rw [Nat.beq_refl] at h4; exact absurd h4.1 (by simp)
      · have : (looks all x).contains u = true := by simpa [looks] using ht
        rw [h4.2] at this; cases this

theorem isFl_spec {ms : List Nat} {i : Nat} (h : isFl all.size ms m i = true) : ∃ j, m ≤ j ∧ j < all.size ∧ (ms.getD j 0).testBit i = false := by
  obtain ⟨j, h1, h2⟩ := List.any_eq_true.1 h
  simp only [Bool.and_eq_true, Bool.not_eq_true'] at h2
  refine ⟨j, ?_, by simpa using h1, h2.2⟩
  rcases Nat.lt_or_ge j m with h | h
  · have hb : Nat.blt j m = true := by rw [Nat.blt_eq]; exact h
    rw [hb] at h2; exact absurd h2.1 (by simp)
  · exact h
theorem isFl_not {ms : List Nat} {i j : Nat} (h : isFl all.size ms m i = false) (hj : j < all.size) (hm : m ≤ j) : (ms.getD j 0).testBit i = true := by
  cases ht : (ms.getD j 0).testBit i with
  | true => rfl
  | false =>
    have : isFl all.size ms m i = true := List.any_eq_true.2 ⟨j, by simpa using hj, by
      simp only [Bool.and_eq_true, Bool.not_eq_true']
      refine ⟨?_, ht⟩
      cases hb : Nat.blt j m with
      | false => rfl
      | true => rw [Nat.blt_eq] at hb; omega⟩
    rw [h] at this; cases this
theorem okFf_spec {ms : List Nat} (h : okFf all ms m = true) {i j : Nat} (hi : i < m) (hj : j < m) (hne : i ≠ j) (fi : isFl all.size ms m i = true) (fj : isFl all.size ms m j = true) {x y : Oper} (hx : all[i]? = some x) (hy : all[j]? = some y) {u : Nat} (hu : y.dst = some u) : u ∉ x.looksAt all := by
  have h1 := List.all_eq_true.1 h i (by simpa using hi)
  rw [fi] at h1
  simp only [Bool.not_true, Bool.false_or] at h1
  have h2 := List.all_eq_true.1 h1 j (by simpa using hj)
  rw [fj, hx, hy] at h2
  simp only [Bool.not_true, Bool.or_false, Bool.or_eq_true, hu, Bool.not_eq_true'] at h2
  rcases h2 with h2 | h2
  · exact absurd (Nat.eq_of_beq_eq_true h2) hne
  · intro ht
    have : (looks all x).contains u = true := by simpa [looks] using ht
    rw [h2] at this; cases this

/-- what is known where only the rest, and what may come late, is to come -/
structure Bsta (all : Array Oper) (m c : Nat) (listed : Array Bool) (env Ec : Env) : Prop where
  h : ∀ i, i < m → isL listed i ∨ isFl all.size (masks [] all.toList) m i = true ∧ ∃ x t, all[i]? = some x ∧ x.guard = none ∧ x.dst = some t ∧ FlI x env (gt Ec t)
  a : ∀ t, (∀ (i : Nat) (x : Oper), i < m → all[i]? = some x → ¬ isL listed i → x.dst ≠ some t) → gt env t = gt Ec t

theorem fl_tail (hΦ : Good P Φ) (hB : TabOk P B) (Q : Exit → Act → World → Prop) (K : Env → Mem → Prop) (hQ : ∀ p env M a w, St F p env M a w → K env M → Q .normal a w) (hb : backs 0 all.toList = true) (ht : okFl all (masks [] all.toList) m = true) (hff : okFf all (masks [] all.toList) m = true)
    (huq : ∀ (i j : Nat) (x y : Oper) (t : Nat), i < m → j < m → all[i]? = some x → all[j]? = some y → x.dst = some t → y.dst = some t → i = j)
    (hco : opsOk F.nt all.toList = true) (hfv : ∀ o ∈ all.toList, ∀ k, o.dst = some k → F.fv k = none) :
    ∀ (fuel : Nat) (listed : Array Bool) (c : Nat) (p : Ow) (env Ec : Env) (M : Mem) (a : Act) (w : World), listed.size = all.size → (∀ i, m ≤ i → i < all.size → (isL listed i ↔ i < c)) → m ≤ c → unl listed all.size ≤ fuel → Down all listed → Bsta all m c listed env Ec →
      St F p env M a w → tw B Φ (toL all) (all.toList.drop c) Ec M K → wpAny P .any all Q fuel listed a w := by
  intro fuel
  have done : ∀ (listed : Array Bool) (c : Nat) (p : Ow) (env Ec : Env) (M : Mem) (a : Act) (w : World), listed.size = all.size → (∀ i, m ≤ i → i < all.size → (isL listed i ↔ i < c)) → m ≤ c → Region.ready .any all listed = [] → Bsta all m c listed env Ec → St F p env M a w → tw B Φ (toL all) (all.toList.drop c) Ec M K → Q .normal a w := by
    intro listed c p env Ec M a w hs hl hmc hr S hst hk
    have hall := ready_some hs hb hr
    have hc : all.toList.length ≤ c := by
      rcases Nat.lt_or_ge c all.size with h | h
      · have := (hl c hmc h).1 (hall c h); omega
      · simpa using h
    rw [List.drop_eq_nil_of_le hc] at hk
    simp only [tw] at hk
    exact hQ p Ec M a w (hst.weak fun t => .inr (S.a t fun i x h1 h2 h3 => absurd (hall i (Array.getElem?_eq_some_iff.1 h2).1) h3).symm) hk
  have noready : ∀ (listed : Array Bool), listed.size = all.size → unl listed all.size = 0 → Region.ready .any all listed = [] := by
    intro listed hs hu
    cases hr : Region.ready .any all listed with
    | nil => rfl
    | cons i r =>
      obtain ⟨o, h1, h2, _⟩ := ready_edges (j := i) (by rw [hr]; simp)
      have hi := (Array.getElem?_eq_some_iff.1 h1).1
      have := unl_zero hu i hi
      unfold isL at this
      simp [hs, hi] at this h2
      rw [this] at h2; cases h2
  induction fuel with
  | zero =>
    intro listed c p env Ec M a w hs hl hm hu _ S hst hk
    have hr := noready listed hs (by omega)
    exact ⟨hr, done listed c p env Ec M a w hs hl hm hr S hst hk⟩
  | succ fuel ih =>
    intro listed c p env Ec M a w hs hl hm hu hdn S hst hk
    refine ⟨fun hr => done listed c p env Ec M a w hs hl hm hr S hst hk, fun j hj => ?_⟩
    obtain ⟨o, h1, h2, h3⟩ := ready_edges hj
    have hjs := (Array.getElem?_eq_some_iff.1 h1).1
    have hnl : ¬ isL listed j := by
      unfold isL; simp [hs, hjs] at h2 ⊢; exact h2
    have hmem : o ∈ all.toList := by rw [Array.mem_toList_iff]; exact Array.mem_of_getElem? h1
    have hset : ∀ i, isL (listed.setIfInBounds j true) i ↔ i = j ∨ isL listed i := fun i => isL_set (by rw [hs]; exact hjs)
    have hul := unl_set (by rw [hs]; exact hjs) hnl all.size hjs
    by_cases hjm : j < m
    · rcases S.h j hjm with h | ⟨fj, x, t, e1, e2, e3, e4⟩
      · exact absurd h hnl
      rw [h1] at e1; cases e1
      have hr : evR B Φ o env M = ⟨[], gt Ec t, [], M⟩ := e4.run
      refine wpOp_mono (fun a' w' ⟨p', env', M', q1, q2, q3⟩ => ?_) (aw_step (rest := []) (K := fun env' M' => env' = (t, gt Ec t) :: env ∧ M' = M) hΦ hB hst (by simp only [tw, e2, hr, e3, conj, wr, evEs]; exact ⟨trivial, trivial⟩) (opsOk_mem hco hmem) (hfv o hmem) h1 Q)
      subst q2; subst q3
      refine ih _ c p' _ Ec _ a' w' (by simpa using hs) (fun i hi his => ?_) hm (by omega) (hdn.set hj) ⟨fun i hi => ?_, fun t' ht' => ?_⟩ q1 hk
      · rw [hset]
        exact ⟨fun h => h.elim (fun h => by omega) (hl i hi his).1, fun h => .inr ((hl i hi his).2 h)⟩
      · by_cases hij : i = j
        · exact .inl ((hset i).2 (.inl hij))
        · rcases S.h i hi with h | ⟨f0, x, t1, f1, f2, f3, f4⟩
          · exact .inl ((hset i).2 (.inr h))
          · refine .inr ⟨f0, x, t1, f1, f2, f3, ?_⟩
            obtain ⟨t0, g1, g2⟩ := f4.look
            refine g2 _ [] ?_
            simp only [V.evs]
            rw [gt_cons, if_neg]
            intro htt
            subst htt
            exact okFf_spec hff hi hjm hij f0 fj f1 h1 e3 (List.mem_append_left _ (List.mem_filterMap.2 ⟨.tmp t, by simpa using g1, rfl⟩))
      · rw [gt_cons]
        by_cases htt : t = t'
        · subst htt; rw [if_pos rfl]
        · rw [if_neg htt]
          refine S.a t' fun i x hi hx hn hd => ?_
          by_cases hij : i = j
          · subst hij; rw [h1] at hx; cases hx; rw [e3] at hd; cases hd; exact htt rfl
          · exact ht' i x hi hx (fun h => ((hset i).1 h).elim hij hn) hd
    · have hmj : m ≤ j := by omega
      obtain ⟨hg, hsp⟩ := okFl_spec ht hmj h1
      have hcj : c ≤ j := by
        rcases Nat.lt_or_ge j c with h | h
        · exact absurd ((hl j hmj hjs).2 h) hnl
        · exact h
      have hjc : j = c := by
        rcases Nat.lt_or_ge c j with h | h
        · rcases hsp c h with hb1 | ⟨hb1, _⟩
          · have := mask_listed hdn hb j o h1 h3 c hb1
            have := (hl c hm (by omega)).1 this
            omega
          · omega
        · omega
      subst hjc
      have late : ∀ {i : Nat}, i < m → ¬ isL listed i → ∃ x, all[i]? = some x ∧ flt all x o = true := fun {i} hi hn => by
        rcases hsp i (by omega) with hb1 | ⟨_, h⟩
        · exact absurd (mask_listed hdn hb j o h1 h3 i hb1) hn
        · exact h
      have hdrop : all.toList.drop j = o :: all.toList.drop (j + 1) := by
        rw [List.drop_eq_getElem_cons (by simpa using hjs)]
        congr 1
        have := (Array.getElem?_eq_some_iff.1 h1).2
        simpa using this
      rw [hdrop] at hk
      have hlook : ∀ t ∈ o.looksAt all, gt env t = gt Ec t := fun t htl => S.a t fun i x hi hx hn hd => by
        obtain ⟨x', hx', hf⟩ := late hi hn
        rw [hx] at hx'; cases hx'
        obtain ⟨_, _, t', ht', hnot, _⟩ := flt_spec hf
        rw [hd] at ht'; cases ht'
        exact hnot htl
      have hrdE : ∀ x ∈ o.op.operands, rd env x = rd Ec x := fun x hx => by
        cases x with
        | tmp t => exact hlook t (List.mem_append_left _ (List.mem_filterMap.2 ⟨.tmp t, by simpa using hx, rfl⟩))
        | const c => rfl
        | global g => rfl
        | func f => rfl
      have hev : evR B Φ o env M = evR B Φ o Ec M := evR_congr o hrdE
      simp only [tw, hg] at hk
      generalize hq : evR B Φ o Ec M = q at hk
      obtain ⟨vc, v, e, M1⟩ := q
      simp only [conj_iff] at hk
      refine wpOp_mono (fun a' w' ⟨p', env', M', q1, q2, q3⟩ => ?_) (aw_step (rest := []) (K := fun env' M' => env' = wr o.dst v (evEs env e) ∧ M' = M1) hΦ hB hst (by simp only [tw, hg, hev, hq, conj_iff]; exact ⟨hk.1, trivial, trivial⟩) (opsOk_mem hco hmem) (hfv o hmem) h1 Q)
      subst q2; subst q3
      refine ih _ (j + 1) p' _ (wr o.dst v (evEs Ec e)) _ a' w' (by simpa using hs) (fun i hi his => ?_) (by omega) (by omega) (hdn.set hj) ⟨fun i hi => ?_, fun t' ht' => ?_⟩ q1 hk.2
      · rw [hset, hl i hi his]; omega
      · rcases S.h i hi with h | ⟨f0, x, t1, f1, f2, f3, f4⟩
        · exact .inl ((hset i).2 (.inr h))
        · by_cases hn : isL listed i
          · exact .inl ((hset i).2 (.inr hn))
          obtain ⟨x', hx', hf⟩ := late hi hn
          rw [f1] at hx'; cases hx'
          obtain ⟨_, _, t', ht', _, hu⟩ := flt_spec hf
          rw [f3] at ht'; cases ht'
          refine .inr ⟨f0, x, t1, f1, f2, f3, ?_⟩
          have e1 : gt (wr o.dst v (evEs Ec e)) t1 = (gt Ec t1).evs e := by
            rw [gt_wr, if_neg (fun h => (hu t1 h).1 rfl), gt_evEs]
          rw [e1]
          obtain ⟨t0, g1, g2⟩ := f4.look
          refine g2 _ e ?_
          have hlk : t0 ∈ x.looksAt all := List.mem_append_left _ (List.mem_filterMap.2 ⟨.tmp t0, by simpa using g1, rfl⟩)
          rw [gt_wr, if_neg (fun h => (hu t0 h).2 hlk), gt_evEs]
      · rw [gt_wr, gt_wr]
        split
        · rfl
        · rw [gt_evEs, gt_evEs, S.a t' fun i x hi hx hn hd => ht' i x hi hx (fun h => ((hset i).1 h).elim (fun h => by omega) hn) hd]

theorem Hctx.nogd (C : Hctx B Φ all m E X N M0) {j : Nat} (hj : j ≤ m) (t : Nat) : isGd (gt (E j) t) = false := by
  have key : noGdV (gt (E j) t) = true := by
    by_cases hw : ∃ (i : Nat) (x : Oper), all[i]? = some x ∧ i < j ∧ x.dst = some t
    · obtain ⟨i, x, e1, e2, e3⟩ := hw
      rw [(C.gts j t hj).2 i x e1 e2 e3]
      obtain ⟨d', v', vc', ev', H'⟩ := C.hE i x e1 (by omega)
      have : d' = t := by have := H'.dst; rw [e3] at this; exact (Option.some.inj this).symm
      subst this
      rw [H'.he, gt_cons, if_pos rfl]
      exact H'.gd
    · rw [(C.gts j t hj).1 fun i o h1 h2 h3 => hw ⟨i, o, h1, h2, h3⟩]
      exact C.h0 t
  cases hv : gt (E j) t with
  | gd _ _ _ _ => rw [hv] at key; cases key
  | _ => rfl

/-- where what may not come late is done -/
theorem Hctx.turn (C : Hctx B Φ all m E X N M0) {listed : Array Bool} {env : Env} {M : Mem} (hl : ∀ i, i < all.size → isL listed i → i < m) (hdn : Down all listed) (S : Hsta all m E N M0 listed env M) (hall : ∀ i, i < m → isFl all.size (masks [] all.toList) m i = false → isL listed i) :
    Bsta all m m listed env (E m) := by
  have hlm : ∀ {i : Nat} {x : Oper}, all[i]? = some x → isL listed i → i < m := fun h1 h2 => hl _ (Array.getElem?_eq_some_iff.1 h1).1 h2
  refine ⟨fun i hi => ?_, fun t ht => ?_⟩
  · by_cases hn : isL listed i
    · exact .inl hn
    right
    have fi : isFl all.size (masks [] all.toList) m i = true := by
      cases h : isFl all.size (masks [] all.toList) m i with
      | true => rfl
      | false => exact absurd (hall i hi h) hn
    refine ⟨fi, ?_⟩
    obtain ⟨j, hj1, hj2, hj3⟩ := isFl_spec fi
    obtain ⟨_, hsp⟩ := okFl_spec C.ht hj1 (Array.getElem?_eq_getElem hj2)
    rcases hsp i (by omega) with h | ⟨_, x, hx, hf⟩
    · rw [hj3] at h; cases h
    obtain ⟨g1, g2, t, g3, _, _⟩ := flt_spec hf
    obtain ⟨d, v, vc, ev, H⟩ := C.hE i x hx hi
    have hd : d = t := by have := H.dst; rw [g3] at this; exact (Option.some.inj this).symm
    subst hd
    obtain ⟨N', hr, _⟩ := H.r
    have hF := FlI.of (B := B) (Φ := Φ) g2 (fun t => C.nogd (by omega) t) hr H.hv
    refine ⟨x, d, hx, g1, g3, ?_⟩
    have hv : gt (E m) d = v := by
      rw [(C.gts m d (Nat.le_refl _)).2 i x hx hi g3, H.he, gt_cons, if_pos rfl]
    rw [hv]
    obtain ⟨t0, k1, k2⟩ := hF.look
    refine k2 _ [] ?_
    simp only [V.evs]
    have hlk : t0 ∈ x.looksAt all := List.mem_append_left _ (List.mem_filterMap.2 ⟨.tmp t0, by simpa using k1, rfl⟩)
    by_cases hw : ∃ (i' : Nat) (x' : Oper), all[i']? = some x' ∧ i' < m ∧ x'.dst = some t0
    · obtain ⟨i', x', e1, e2, e3⟩ := hw
      by_cases hii : i' < i
      · have hli : isL listed i' := by
          cases h : isFl all.size (masks [] all.toList) m i' with
          | false => exact hall i' e2 h
          | true => exact absurd hlk (okFf_spec C.hf hi e2 (by omega) fi h hx e1 e3)
        rw [S.b i' x' t0 e1 hli e3, (C.gts i t0 (by omega)).2 i' x' e1 hii e3]
      · have hnli : ¬ isL listed i' := fun hli => by
          by_cases e : i' = i
          · subst e; exact hn hli
          · have hpair := okPair_look (okDraw_spec C.hdr e2 hi e e1 hx) e3 hlk
            rw [if_neg hii] at hpair
            exact hn (mask_listed hdn C.hb i' x' e1 (fun e' he' hb' => hdn i' x' e1 hli e' he' hb') i hpair)
        rw [S.a t0 fun i2 o' h1' h2' h3' => hnli (C.uniq (hlm h1' h2') e2 h1' e1 h3' e3 ▸ h2')]
        exact ((C.gts i t0 (by omega)).1 fun i2 o' h1' h2' h3' => hii (C.uniq (by omega) e2 h1' e1 h3' e3 ▸ h2')).symm
    · rw [S.a t0 fun i x h1 h2 h3 => hw ⟨i, x, h1, hlm h1 h2, h3⟩]
      exact ((C.gts i t0 (by omega)).1 fun i x h1 h2 h3 => hw ⟨i, x, h1, by omega, h3⟩).symm
  · obtain ⟨g1, g2⟩ := C.gts m t (Nat.le_refl _)
    by_cases hw : ∃ (i : Nat) (x : Oper), all[i]? = some x ∧ i < m ∧ x.dst = some t
    · obtain ⟨i, x, e1, e2, e3⟩ := hw
      have hli : isL listed i := Classical.byContradiction fun hn => ht i x e2 e1 hn e3
      rw [g2 i x e1 e2 e3, S.b i x t e1 hli e3]
    · rw [g1 fun i o h1 h2 h3 => hw ⟨i, o, h1, h2, h3⟩, S.a t fun i o h1 h2 h3 => hw ⟨i, o, h1, hlm h1 h2, h3⟩]

/-- an operation that only hands on gives no new trees -/
theorem Hctx.flN (C : Hctx B Φ all m E X N M0) {i : Nat} (hi : i < m) (fi : isFl all.size (masks [] all.toList) m i = true) : keysM (N i) = [] := by
  obtain ⟨j, hj1, hj2, hj3⟩ := isFl_spec fi
  obtain ⟨_, hsp⟩ := okFl_spec C.ht hj1 (Array.getElem?_eq_getElem hj2)
  rcases hsp i (by omega) with h | ⟨_, x, hx, hf⟩
  · rw [hj3] at h; cases h
  obtain ⟨_, g2, _⟩ := flt_spec hf
  obtain ⟨d, v, vc, ev, H⟩ := C.hE i x hx hi
  obtain ⟨N', hr, hN⟩ := H.r
  have he : ev = [] := by
    unfold fltO at g2
    split at g2
    · rename_i ho; simp only [evR, ho, evOp, pureR, Rs.mk.injEq] at hr; exact hr.2.2.1.symm
    · rename_i ho; simp only [evR, ho, evOp, pureR, Rs.mk.injEq] at hr; exact hr.2.2.1.symm
    · rename_i ho; simp only [evR, ho, evOp, pureR, Rs.mk.injEq] at hr; exact hr.2.2.1.symm
    · cases g2
  rw [hN, he]; rfl

theorem Hctx.fin (C : Hctx B Φ all m E X N M0) {listed : Array Bool} {env : Env} {M : Mem} (hl : ∀ i, i < all.size → isL listed i → i < m) (S : Hsta all m E N M0 listed env M) (hall : ∀ i, i < m → isFl all.size (masks [] all.toList) m i = false → isL listed i) :
    ∀ k, go (ap (X m) M0) k = go M k := by
  have hm := C.hm
  intro k
  rw [go_ap]
  obtain ⟨x1, x2⟩ := C.xs m (Nat.le_refl _) k
  by_cases hw : ∃ i, i < m ∧ k ∈ keysM (N i)
  · obtain ⟨i, h1, h2⟩ := hw
    have hli : isL listed i := by
      cases h : isFl all.size (masks [] all.toList) m i with
      | false => exact hall i h1 h
      | true => rw [C.flN h1 h] at h2; cases h2
    rw [(x1 i h1 h2).1, S.d i k (by omega) hli h2]
    cases hg : go (N i) k with
    | none => exact absurd hg (keys_go.1 h2)
    | some ob => rfl
  · rw [x2 fun i h1 h2 => hw ⟨i, h1, h2⟩]
    simp only
    exact (S.c k fun i hi hli h2 => hw ⟨i, hl i hi hli, h2⟩).symm

theorem Hctx.any (hΦ : Good P Φ) (hB : TabOk P B) (C : Hctx B Φ all m E X N M0) (Q : Exit → Act → World → Prop) (K : Env → Mem → Prop) (hQ : ∀ p env M a w, St F p env M a w → K env M → Q .normal a w) (hco : opsOk F.nt all.toList = true) (hfv : ∀ o ∈ all.toList, ∀ k, o.dst = some k → F.fv k = none)
    (hlast : tw B Φ (toL all) (all.toList.drop m) (E m) (ap (X m) M0) K) :
    ∀ (fuel : Nat) (listed : Array Bool) (p : Ow) (env : Env) (M : Mem) (a : Act) (w : World), listed.size = all.size → (∀ i, i < all.size → isL listed i → i < m) → unl listed all.size ≤ fuel → Down all listed → Hsta all m E N M0 listed env M → St F p env M a w → wpAny P .any all Q fuel listed a w := by
  have hm := C.hm
  have huq : ∀ (i j : Nat) (x y : Oper) (t : Nat), i < m → j < m → all[i]? = some x → all[j]? = some y → x.dst = some t → y.dst = some t → i = j := fun i j x y t hi hj hx hy h1 h2 => C.uniq hi hj hx hy h1 h2
  have last : ∀ (fuel : Nat) (listed : Array Bool) (p : Ow) (env : Env) (M : Mem) (a : Act) (w : World), listed.size = all.size → (∀ i, i < all.size → isL listed i → i < m) → unl listed all.size ≤ fuel → Down all listed → Hsta all m E N M0 listed env M → St F p env M a w → (∀ i, i < m → isFl all.size (masks [] all.toList) m i = false → isL listed i) → wpAny P .any all Q fuel listed a w := by
    intro fuel listed p env M a w hs hl hu hdn S hst hall
    exact fl_tail hΦ hB Q K hQ C.hb C.ht C.hf huq hco hfv fuel listed m p env (E m) (ap (X m) M0) a w hs (fun i hi his => ⟨fun h => hl i his h, fun h => absurd h (by omega)⟩) (Nat.le_refl _) hu hdn (C.turn hl hdn S hall) (hst.same (C.fin hl S hall) fun _ => rfl) hlast
  intro fuel
  induction fuel with
  | zero =>
    intro listed p env M a w hs hl hu hdn S hst
    exact last 0 listed p env M a w hs hl hu hdn S hst fun i hi _ => unl_zero (Nat.le_zero.1 hu) i (by omega)
  | succ fuel ih =>
    intro listed p env M a w hs hl hu hdn S hst
    by_cases hall : ∀ i, i < m → isFl all.size (masks [] all.toList) m i = false → isL listed i
    · exact last (fuel + 1) listed p env M a w hs hl hu hdn S hst hall
    · refine ⟨fun hr => absurd (fun i hi _ => ready_some hs C.hb hr i (by omega)) hall, fun j hj => ?_⟩
      obtain ⟨o, h1, h2, h3⟩ := ready_edges hj
      have hjs := (Array.getElem?_eq_some_iff.1 h1).1
      have hnl : ¬ isL listed j := by
        unfold isL; simp [hs, hjs] at h2 ⊢; exact h2
      have hjm : j < m := by
        rcases Nat.lt_or_ge j m with h | h
        · exact h
        · exact absurd (fun i _ hf => mask_listed hdn C.hb j o h1 h3 i (isFl_not hf hjs h)) hall
      have hmem : o ∈ all.toList := by rw [Array.mem_toList_iff]; exact Array.mem_of_getElem? h1
      refine wpOp_mono (fun a' w' ⟨p', env', M', e1, e2⟩ => ih _ p' env' M' a' w' (by simpa using hs) (fun i hi hli => ?_) ?_ (hdn.set hj) e2 e1) (aw_step hΦ hB hst (C.step hs hl hdn S hst h1 hjm hnl h3) (opsOk_mem hco hmem) (hfv o hmem) h1 Q)
      · rcases (isL_set (by rw [hs]; exact hjs)).1 hli with h | h
        · omega
        · exact hl i hi h
      · have := unl_set (by rw [hs]; exact hjs) hnl all.size hjs
        omega

theorem head_ok (hΦ : Good P Φ) (hB : TabOk P B) (hmix : P.follows .mixedOrders = true) {id : Nat} {ops : Array Oper} {cut : Nat} (hco : opsOk F.nt (toL ops) = true) (hfv : ∀ o ∈ toL ops, ∀ k, o.dst = some k → F.fv k = none) (hr : okHx (toL ops) cut = true) {K : Env → Mem → Prop} {Q : Exit → Act → World → Prop}
    (hQ : ∀ p env M a w, St F p env M a w → K env M → Q .normal a w) {p : Ow} {env : Env} {M : Mem} {a : Act} {w : World} (h : St F p env M a w) (hn : noGdE env = true)
    (hk : hx B Φ M (takeL cut (toL ops)) env [] (fun env X => bif nogd env then twG B Φ (toL ops) (dropL cut (toL ops)) env (ap X M) K else False)) : (Code.region id ops true).wp P Q a w := by
  rw [toL_eq] at hco hfv hr
  rw [takeL_eq, dropL_eq] at hk
  simp only [okHx, Bool.and_eq_true] at hr
  obtain ⟨h1, h2, h3, h5, h4⟩ := hr
  obtain ⟨E, X, N, e0, x0, e1, e2⟩ := hx_steps _ _ _ _ hk
  have hm : cut ≤ ops.toList.length := Nat.le_of_ble_eq_true h2
  have hm' : cut ≤ ops.size := by simpa using hm
  rw [toL_eq, List.length_take, Nat.min_eq_left hm] at e2
  cases hng : nogd (E cut) with
  | false => rw [hng] at e2; exact e2.elim
  | true =>
  rw [hng] at e2
  simp only [cond_true] at e2
  replace e2 := twG_tw (B := B) (Φ := Φ) _ _ _ (nogd_inv hng) e2
  have C : Hctx B Φ ops cut E X N M := {
    hb := h1
    hm := hm'
    ht := by simpa using h3
    hf := by simpa using h5
    hdr := by simpa using h4
    hE := fun j o ho hj => e1 j o (by rw [toL_eq, List.getElem?_take_of_lt hj, toList_get]; exact ho)
    hX := x0
    h0 := fun t => by rw [e0]; exact noGdE_gt hn }
  refine wp_region_any hmix ?_
  exact C.any hΦ hB Q K hQ hco hfv (by simpa only [toL_eq] using e2) _ _ p env M a _ (by simp) (fun i _ hi => absurd hi isL_rep) (unl_le _ _) (fun j o _ hi => absurd hi isL_rep)
    ⟨fun t _ => by rw [e0], fun i o t _ hi => absurd hi isL_rep, fun k _ => rfl, fun i k _ hi => absurd hi isL_rep⟩ h.drew

end
end
end Go.Bm

/- The typed machine: soundness. -/
namespace Go.Bm
open Go.RowKit

section
variable {P : Program} {B : Tab} {Φ : FuncId → Option Ct}

theorem isB_val {F : Fr} {p : Ow} {env : Env} {M : Mem} {a : Act} {w : World} (h : St F p env M a w) {t : Nat} (hb : (gt env t).isB = true) : a.tmps.getD t undef = .bool (gt env t).boolV := by
  obtain ⟨b, h1, h2⟩ := isB_some hb
  have := h.slots t
  rw [h1, relS_d, relF_bool] at this
  rw [this, h2]

theorem ev_ok (hΦ : Good P Φ) (hB : TabOk P B) (hmix : P.follows .mixedOrders = true) (cut : Nat → Nat) : (c : Code) → (F : Fr) → (A : Ann) → (K : Ex → Env → Mem → Prop) → (env : Env) → (M : Mem) → okC F.nt cut c = true → Free F.fv c → ev B Φ cut c A K env M →
    ∀ (p : Ow) (a : Act) (w : World), St F p env M a w → c.wp P (lift F K) a w
  | .skip, F, A, K, env, M, _, _, h, p, a, w, hs => by simp only [ev] at h; exact wp_skip ⟨p, env, M, hs, h⟩
  | .ret, F, A, K, env, M, _, _, h, p, a, w, hs => by simp only [ev] at h; exact wp_ret ⟨p, env, M, hs, h⟩
  | .exit id, F, A, K, env, M, _, _, h, p, a, w, hs => by simp only [ev] at h; exact wp_exit ⟨p, env, M, hs, h⟩
  | .seq x y, F, A, K, env, M, hc, hf, h, p, a, w, hs => by
    simp only [okC, nob_eq, Bool.and_eq_true] at hc
    simp only [ev] at h
    refine wp_seq (Code.wp_mono (fun e a' w' he => ?_) (ev_ok hΦ hB hmix cut x F A.fst _ env M hc.1 hf.1 h p a w hs))
    cases e with
    | normal => obtain ⟨p', env', M', h1, h2⟩ := he; exact ev_ok hΦ hB hmix cut y F A.snd K env' M' hc.2 hf.2 h2 p' a' w' h1
    | exit id => exact he
    | ret => exact he
    | goto l => exact he.elim
    | panic c => exact he.elim
    | outgrown => exact he.elim
  | .region id ops draw, F, A, K, env, M, hc, hf, h, p, a, w, hs => by
    simp only [okC, nob_eq, Bool.and_eq_true] at hc
    simp only [ev] at h
    have hQ : ∀ p env M a w, St F p env M a w → (fun env M => K .nm (clr env) M) env M → lift F K .normal a w := fun p env M a w h1 h2 => ⟨p, clr env, M, h1.weak (gt_clr env), h2⟩
    cases draw with
    | false =>
      simp only at h
      cases hn : nogd env with
      | false => rw [hn] at h; exact h.elim
      | true =>
      rw [hn] at h
      replace h := twG_tw (B := B) (Φ := Φ) _ _ _ (nogd_inv hn) h
      have h1 := hc.1
      have h2 : ∀ o ∈ ops.toList, ∀ k, o.dst = some k → F.fv k = none := by rw [← toL_eq]; exact hf
      rw [toL_eq] at h1
      have := tw_ok (P := P) hΦ hB ops (lift F K) (fun env M => K .nm (clr env) M) hQ ops.toList p env M a w h1 h2 hs (by rw [← toL_eq ops]; exact h)
      have e : ops = ops.toList.toArray := by simp
      rw [e]
      exact wp_region_lit (by simpa using this)
    | true =>
      simp only at h
      cases hbx : Nat.beq (cut id) 999999 with
      | true =>
        rw [hbx] at h hc
        simp only [cond_true] at h
        have hs1 := frzRest_ok [] (useIds env (toL ops)) M env hs
        generalize frzRest [] (useIds env (toL ops)) M env = z at h hs1
        obtain ⟨env1, M1⟩ := z
        exact box_ok hΦ hB hmix hc.1 hf hc.2 hQ hs1 h
      | false =>
      rw [hbx] at h hc
      simp only [cond_false] at h hc
      cases hhx : Nat.ble 500 (cut id) with
      | true =>
        rw [hhx] at h hc
        simp only [cond_true] at h hc
        generalize Nat.sub (cut id) 500 = n at h hc
        cases hn : noGdE env with
        | false => rw [hn] at h; exact h.elim
        | true =>
        rw [hn] at h
        simp only [cond_true] at h
        exact head_ok hΦ hB hmix hc.1 hf hc.2 hQ hs hn h
      | false =>
      rw [hhx] at h hc
      simp only [cond_false] at h hc
      cases hn : nogd env with
      | false => rw [hn] at h; exact h.elim
      | true =>
      rw [hn] at h
      replace h := dwG_dw (B := B) (Φ := Φ) (fun env hI he => twG_tw (B := B) (Φ := Φ) _ _ _ hI he) _ _ _ (nogd_inv hn) h
      exact draw_ok hΦ hB hmix hc.1 hf hc.2 hQ hs h
  | .cond g x y, F, A, K, env, M, hc, hf, h, p, a, w, hs => by
    simp only [okC, nob_eq, Bool.and_eq_true] at hc
    cases g with
    | const v => simp only [ev] at h
    | func v => simp only [ev] at h
    | global v => simp only [ev] at h
    | tmp t =>
      have plain : ∀ (A1 A2 : Ann) (F' : Fr) (K' : Ex → Env → Mem → Prop), F'.nt = F.nt → Free F'.fv x → Free F'.fv y → St F' p env M a w → (gt env t).isB = true → cnd (gt env t).boolV (ev B Φ cut x A1 K' env M) (ev B Φ cut y A2 K' env M) → (Code.cond (.tmp t) x y).wp P (lift F' K') a w := fun A1 A2 F' K' hnt hfx hfy hs' hb hcn =>
        wp_cond_split (t := (gt env t).boolV) (isB_val hs' hb) (fun e => ev_ok hΦ hB hmix cut x F' A1 K' env M (by rw [hnt]; exact hc.1) hfx (hcn.1 e) p a w hs') (fun e => ev_ok hΦ hB hmix cut y F' A2 K' env M (by rw [hnt]; exact hc.2) hfy (hcn.2 e) p a w hs')
      have nj : ∀ A : Ann, ev B Φ cut (.cond (.tmp t) x y) A K env M = (bif (gt env t).isB then cnd (gt env t).boolV (ev B Φ cut x A.fst K env M) (ev B Φ cut y A.snd K env M) else False) → ev B Φ cut (.cond (.tmp t) x y) A K env M → (Code.cond (.tmp t) x y).wp P (lift F K) a w := fun A e h => by
        rw [e] at h
        cases hb : (gt env t).isB with
        | false => rw [hb] at h; exact h.elim
        | true => rw [hb] at h; exact plain A.fst A.snd F K rfl hf.1 hf.2 hs hb h
      cases A with
      | n => exact nj _ (by simp only [ev]) h
      | s A1 A2 => exact nj _ (by simp only [ev]) h
      | l ss os ks A => exact nj _ (by simp only [ev]) h
      | j ss os ks A =>
        simp only [ev] at h
        cases hb : allT [(gt env t).isB, noW ks x, noW ks y] with
        | false => rw [hb] at h; exact h.elim
        | true =>
          rw [hb] at h
          simp only [cond_true, joinW] at h
          simp only [allT_cons, allT_nil, Bool.and_true, Bool.and_eq_true] at hb
          exact join_ok hs (plain A.fst A.snd (mkF F (Imm F p M w) w ks a) _ rfl (free_mk x hb.2.1 hf.1) (free_mk y hb.2.2 hf.2) (hs.fwd ks) hb.1 h)
  | .block id c, F, A, K, env, M, hc, hf, h, p, a, w, hs => by
    simp only [okC] at hc
    have fin : ∀ (F' : Fr) (K2 : Ex → Env → Mem → Prop), c.wp P (lift F' (blkK id K2)) a w → (Code.block id c).wp P (lift F' K2) a w := fun F' K2 hw => by
      refine wp_block (Code.wp_mono (fun e a' w' he => ?_) hw)
      cases e with
      | normal => exact he
      | exit id' =>
        obtain ⟨p', env', M', h1, h2⟩ := he
        simp only [blkK, beq_cond] at h2
        simp only [Exit.inBlock]
        split at h2
        · rename_i e; rw [if_pos e]; exact ⟨p', env', M', h1, h2⟩
        · rename_i e; rw [if_neg e]; exact ⟨p', env', M', h1, h2⟩
      | ret => exact he
      | goto l => exact he.elim
      | panic c => exact he.elim
      | outgrown => exact he.elim
    have nj : ∀ A : Ann, ev B Φ cut (.block id c) A K env M = ev B Φ cut c A (blkK id K) env M → ev B Φ cut (.block id c) A K env M → (Code.block id c).wp P (lift F K) a w := fun A e h => by
      rw [e] at h
      exact fin F K (ev_ok hΦ hB hmix cut c F A _ env M hc hf h p a w hs)
    cases A with
    | n => exact nj _ (by simp only [ev]) h
    | s A1 A2 => exact nj _ (by simp only [ev]) h
    | l ss os ks A => exact nj _ (by simp only [ev]) h
    | j ss os ks A =>
      simp only [ev] at h
      cases hb : noW ks c with
      | false => rw [hb] at h; exact h.elim
      | true =>
        rw [hb] at h
        simp only [cond_true, joinW] at h
        exact join_ok hs (fin _ _ (ev_ok hΦ hB hmix cut c (mkF F (Imm F p M w) w ks a) A _ env M hc (free_mk c hb hf) h p a w (hs.fwd ks)))
  | .loop c, F, A, K, env, M, hc, hf, h, p, a, w, hs => by
    simp only [okC] at hc
    cases A with
    | n => simp only [ev] at h
    | s A1 A2 => simp only [ev] at h
    | j ss os ks A => simp only [ev] at h
    | l ss os ks A =>
      simp only [ev] at h
      cases hb : noW ks c with
      | false => rw [hb] at h; exact h.elim
      | true =>
        rw [hb] at h
        simp only [cond_true] at h
        cases hrd : readA ss os env M with
        | none => rw [hrd] at h; exact h.elim
        | some q =>
          rw [hrd] at h
          simp only [loopW] at h
          obtain ⟨n, hn⟩ := h
          obtain ⟨p1, h1, hK⟩ := readA_ok hs hrd
          obtain ⟨o1, o2⟩ := readA_oks hs hrd
          generalize hbody : (fun (s : denS ss × denO os) (next : denS ss × denO os → Prop) => imps (okS ss s.1) (imps (okO os s.2) (ev B Φ cut c A (joinK ss os next K) (ap (putS ss s.1) (kept q.2 ks)) (putO os s.2)))) = body at hn
          have key := wp_loop_ghost (P := P) (c := c) (Q' := lift F K) (ι := Nat) (fun n a1 w1 => ∃ (p2 : Ow) (s : denS ss × denO os), St (mkF F (Imm F p1 (putO os q.1.2) w) w ks a) p2 (ap (putS ss s.1) (kept q.2 ks)) (putO os s.2) a1 w1 ∧ allP (okS ss s.1) ∧ allP (okO os s.2) ∧ iterW body n s) id
            (fun n a1 w1 ⟨p2, s, g1, g2, g3, g4⟩ => by
              cases n with
              | zero => simp only [iterW] at g4
              | succ n =>
                simp only [iterW] at g4
                have hb1 := congrFun (congrFun hbody s) (iterW body n)
                rw [← hb1] at g4
                simp only [imps_iff] at g4
                refine Code.wp_mono (fun e a' w' he => ?_) (ev_ok hΦ hB hmix cut c (mkF F (Imm F p1 (putO os q.1.2) w) w ks a) A _ _ _ hc (free_mk c hb hf) (g4 g2 g3) p2 a1 w1 g1)
                cases e with
                | normal =>
                  obtain ⟨p3, env3, M3, k1, k2⟩ := he
                  simp only [joinK, readK] at k2
                  cases hr3 : readA ss os env3 M3 with
                  | none => rw [hr3] at k2; exact k2.elim
                  | some s' =>
                    rw [hr3] at k2
                    obtain ⟨p4, k3, _⟩ := readA_ok k1 hr3
                    obtain ⟨k4, k5⟩ := readA_oks k1 hr3
                    exact ⟨n, Nat.lt_succ_self n, p4, s'.1, St.add hK k3, k4, k5, k2⟩
                | exit id => obtain ⟨p3, env3, M3, k1, k2⟩ := he; exact ⟨p3, env3, M3, h1.back k1, k2⟩
                | ret => obtain ⟨p3, env3, M3, k1, k2⟩ := he; exact ⟨p3, env3, M3, h1.back k1, k2⟩
                | goto l => exact he.elim
                | panic ch => exact he.elim
                | outgrown => exact he.elim)
          exact key n a w ⟨p1, q.1, St.add hK (h1.fwd ks), o1, o2, hn⟩
  | .scope c, F, A, K, env, M, hc, hf, h, p, a, w, hs => by
    simp only [okC] at hc
    simp only [ev] at h
    refine wp_scope_straight (Code.wp_mono (fun e a' w' he => ?_) (ev_ok hΦ hB hmix cut c F A K env M hc hf h p a w hs))
    cases e <;> exact he
  | .goto _, F, A, K, env, M, _, _, h, p, a, w, hs => by simp only [ev] at h
  | .label _, F, A, K, env, M, _, _, h, p, a, w, hs => by simp only [ev] at h; exact wp_label ⟨p, env, M, hs, h⟩
  | .rangeFunc _ _ _ _, F, A, K, env, M, _, _, h, p, a, w, hs => by simp only [ev] at h
  | .refuse _, F, A, K, env, M, _, _, h, p, a, w, hs => by simp only [ev] at h

end
end Go.Bm

/- The typed machine: a contract out of a walk. -/
namespace Go.Bm
open Go.RowKit

theorem flat_res {Im Im' : Nat → Prop} {w : World} : (rs : List (Bool × O)) → flatL rs = true → (x : denR rs) → (S : Nat → Prop) → (us : List Value) → ResR Im w rs x S us → ResR Im' w rs x S us
  | [], _, x, S, us, r => by simpa only [ResR] using r
  | q :: rs, h, x, S, us, r => by
    simp only [flatL, nob_eq, Bool.and_eq_true] at h
    simp only [ResR] at r ⊢
    obtain ⟨u, us', vs, S1, S2, e1, e2, e3, e4, e5, e6, e7, e8⟩ := r
    exact ⟨u, us', vs, S1, S2, e1, e2, e3, e4, e5, e6, flat_rel _ h.1 _ _ _ e7, flat_res rs h.2 _ _ _ e8⟩

section
variable {F : Fr} {p p' p'' : Ow} {env env' : Env} {M M' M'' : Mem} {a a' : Act} {w w' w'' : World} {P : Program} {B : Tab} {Φ : FuncId → Option Ct}

theorem load_as {t : TypeId} {u r : Value} (h : (Instr.loadAt t u).run P w = .ok r w) : (do loadVar t (← asAddr u) : Sem Value).run P w = .ok r w := by
  cases u <;> simp [Instr.loadAt, Instr.sureAddr] at h
  case pointer o =>
    cases o with
    | none => simp at h
    | some ad => simpa [asAddr] using h

/-- one result -/
def resM (tmps : Array Value) : ResultVar → Sem Value
  | .tmp t => pure (tmps.getD t undef)
  | .cell t ty' => do loadVar ty' (← asAddr (tmps.getD t undef))

theorem results_eq (fn : Func) (tmps : Array Value) : results fn tmps = (do let vs ← fn.results.mapM (resM tmps); pure (if h : vs.size = 1 then vs[0] else .tuple vs) : Sem Value) := by
  unfold results
  congr

theorem resV_ok (hB : TabOk P B) (hp : Hp F p M w) (hs : ∀ t, RelS p.β M (Imm F p M w) w (gt env t) (a.tmps.getD t undef)) (rv : ResultVar) (v : V) (hv : resV B env M rv = some v) :
    ∃ r, (resM a.tmps rv).run P w = .ok r w ∧ RelS p.β M (Imm F p M w) w v r := by
  cases rv with
  | tmp t => simp only [resV, Option.some.injEq] at hv; subst hv; exact ⟨_, by simp [resM], hs t⟩
  | cell t ty' =>
    simp only [resV] at hv
    split at hv
    · rename_i v' he
      cases hv
      obtain ⟨r, h1, h2⟩ := evLoad_ok (P := P) hB hp _ _ (hs t) (by rw [he]; trivial)
      rw [he] at h2
      exact ⟨r, load_as h1, h2⟩
    · cases hv

theorem resG_ok {v : V} {u : Value} {g : Bool} (hp : Hp F p M w) (h : RelS p.β M (Imm F p M w) w v u) (hc : cellV (resG g v) = true) : ∃ vs : List Value, (g = true → u = .agg vs.toArray) ∧ (g = false → vs = [u]) ∧ RelC p.β M (Imm F p M w) w (resG g v) vs := by
  cases v with
  | ag y =>
    cases g with
    | false => simp [resG, cellV] at hc
    | true =>
      simp only [RelS] at h
      obtain ⟨vs, h1, h2⟩ := h
      exact ⟨vs, fun _ => h1, (fun h => nomatch h), by simpa only [resG, cond_true] using h2⟩
  | any => cases g <;> simp [resG, cellV] at hc
  | tup _ => cases g <;> simp [resG, cellV] at hc
  | gd _ _ _ _ => cases g <;> simp [resG, cellV] at hc
  | ifc _ _ => cases g <;> simp [resG, cellV] at hc
  | p x y => cases g with
    | true => simp [resG, cellV] at hc
    | false => exact ⟨[u], (fun h => nomatch h), fun _ => rfl, by simpa only [resG, cond_false, RelS] using h⟩
  | u => cases g with
    | true => simp [resG, cellV] at hc
    | false => exact ⟨[u], (fun h => nomatch h), fun _ => rfl, by simpa only [resG, cond_false, RelS] using h⟩
  | ref k π => cases g with
    | true => simp [resG, cellV] at hc
    | false => exact ⟨[u], (fun h => nomatch h), fun _ => rfl, by simpa only [resG, cond_false, RelS] using h⟩
  | ad k π => cases g with
    | true => simp [resG, cellV] at hc
    | false => exact ⟨[u], (fun h => nomatch h), fun _ => rfl, by simpa only [resG, cond_false, RelS] using h⟩
  | d t x => cases g with
    | true => simp [resG, cellV] at hc
    | false => exact ⟨[u], (fun h => nomatch h), fun _ => rfl, by simpa only [resG, cond_false, RelS] using h⟩
  | nl => cases g with
    | true => simp [resG, cellV] at hc
    | false => exact ⟨[u], (fun h => nomatch h), fun _ => rfl, by simpa only [resG, cond_false, RelS] using h⟩
  | np => cases g with
    | true => simp [resG, cellV] at hc
    | false => exact ⟨[u], (fun h => nomatch h), fun _ => rfl, by simpa only [resG, cond_false, RelS] using h⟩
  | fn f x => cases g with
    | true => simp [resG, cellV] at hc
    | false => exact ⟨[u], (fun h => nomatch h), fun _ => rfl, by simpa only [resG, cond_false, RelS] using h⟩
  | bx x => cases g with
    | true => simp [resG, cellV] at hc
    | false => exact ⟨[u], (fun h => nomatch h), fun _ => rfl, by simpa only [resG, cond_false, RelS] using h⟩

/-- one result taken out -/
theorem resO_ok (hp : Hp F p M w) (o : O) (v : V) (vs : List Value) (x : o.strip.den) (e : List Ev) (r : RelC p.β M (Imm F p M w) w v vs) (h : resO M o v = some (x, e, M')) :
    ∃ p', ∃ S : Nat → Prop, Tr F p M w e p' M' w ∧ (∀ b, p'.L b ↔ p.L b ∨ S b) ∧ (∀ b, S b → ¬ p.L b) ∧ Rel (Imm F p' M' w) w o x S vs := by
  have key : (match conv gid o.strip v M with
    | some (q, e, M') => (match wkO q o with | some x => some (x, e, M') | none => none)
    | none => none) = some (x, e, M') → ∃ p', ∃ S : Nat → Prop, Tr F p M w e p' M' w ∧ (∀ b, p'.L b ↔ p.L b ∨ S b) ∧ (∀ b, S b → ¬ p.L b) ∧ Rel (Imm F p' M' w) w o x S vs := fun h => by
    split at h
    · rename_i q e1 M1 hc
      split at h
      · rename_i y hy
        cases h
        obtain ⟨_, p1, S, cv⟩ := conv_ok gid o.strip v M p vs q e M' hp r hc
        obtain ⟨w1, w2⟩ := wkO_some hy
        obtain ⟨S', s1, s2⟩ := wk_rel q.o o w1 q.x x S vs w2 cv.rel
        have hd := Tr.drop cv.tr.hp (fun b => p.L b ∨ S' b) (fun b hb => (cv.L b).2 (hb.imp id (s1 b)))
        refine ⟨⟨p1.β, p1.σ, fun b => p.L b ∨ S' b⟩, S', by have := cv.tr.trans hd; rwa [ap_nil] at this, fun b => Iff.rfl, fun b hb => cv.sp b (s1 b hb), s2 _ (fun b hb => (hd.keep b hb).1) (fun b hb hn => ?_)⟩
        have hl := cv.tr.hp.lim b ((cv.L b).2 (.inr hb))
        exact ⟨hl.1, .inr (.inr hl.2.1), fun h => h.elim (cv.sp b hb) hn, hl.2.2⟩
      · cases h
    · cases h
  cases o with
  | fz t =>
    simp only [resO] at h
    have hf := frzV_ok v M hp
    generalize frzV M v = z at h hf
    obtain ⟨e1, M1⟩ := z
    simp only at h hf
    split at h
    · rename_i y hy
      cases h
      exact ⟨p, fun _ => False, hf, fun b => by simp, fun b hb => hb.elim, by simp only [Rel]; exact as_ok _ t vs x (hf.c _ _ r) hy⟩
    · cases h
  | p a b => exact key h
  | sl a => exact key h
  | pt a => exact key h

theorem resL_ok (hB : TabOk P B) : (rs : List ResultVar) → (qs : List (Bool × O)) → (p : Ow) → (env : Env) → (M : Mem) → (y : denR qs) → Hp F p M w → (∀ t, RelS p.β M (Imm F p M w) w (gt env t) (a.tmps.getD t undef)) → resL B env M rs qs = some y →
    ∃ us p' M', ∃ S : Nat → Prop, (rs.mapM (resM a.tmps)).run P w = .ok us w ∧ Hp F p' M' w ∧ Keep (Imm F p M w) (Imm F p' M' w) w w ∧ (∀ b, p.L b → p'.L b) ∧ (∀ b, S b → p'.L b) ∧ (∀ b, S b → ¬ p.L b) ∧ ResR (Imm F p' M' w) w qs y S us
  | [], [], p, env, M, y, hp, hs, h => by
    exact ⟨[], p, M, fun _ => False, rfl, hp, Keep.refl _ _, fun b hb => hb, fun b hb => hb.elim, fun b hb => hb.elim, by simp only [ResR]⟩
  | [], _ :: _, p, env, M, y, hp, hs, h => by simp [resL] at h
  | _ :: _, [], p, env, M, y, hp, hs, h => by simp [resL] at h
  | r :: rs, q :: qs, p, env, M, y, hp, hs, h => by
    simp only [resL] at h
    split at h
    · rename_i v hv
      cases hc : cellV (resG q.1 v) with
      | false => rw [hc] at h; cases h
      | true =>
        rw [hc] at h
        simp only [cond_true] at h
        split at h
        · rename_i x e M1 ho
          split at h
          · rename_i z hz
            cases h
            obtain ⟨u, u1, u2⟩ := resV_ok (P := P) (a := a) hB hp hs r v hv
            obtain ⟨vs, g1, g2, g3⟩ := resG_ok hp u2 hc
            obtain ⟨p1, S, t1, t2, t3, t4⟩ := resO_ok hp q.2 (resG q.1 v) vs x e g3 ho
            obtain ⟨us, p2, M2, S2, k1, k2, k3, k4, k5, k6, k7⟩ := resL_ok hB rs qs p1 (evEs env e) M1 z t1.hp (fun t => by rw [gt_evEs]; exact t1.s _ _ (hs t)) hz
            refine ⟨u :: us, p2, M2, fun b => S b ∨ S2 b, ?_, k2, t1.keep.trans k3, fun b hb => k4 b ((t2 b).2 (.inl hb)), fun b hb => hb.elim (fun h => k4 b ((t2 b).2 (.inr h))) (k5 b), fun b hb => hb.elim (t3 b) (fun h hL => k6 b h ((t2 b).2 (.inl hL))), ?_⟩
            · simp only [List.mapM_cons, Sem.run_bind, u1, Result.andThen_ok, k1, Sem.run_pure]
            · simp only [ResR]
              exact ⟨u, us, vs, S, S2, rfl, g1, g2, fun b hb => .inl hb, fun b hb => .inr hb, fun b hb hb' => k6 b hb' ((t2 b).2 (.inr hb)), Rel.keep k3 _ _ _ _ (fun _ _ => rfl) t4, k7⟩
          · cases h
        · cases h
    · cases h

theorem idxE_gt : ∀ (l : List V) (i t : Nat), gt (idxE i l) t = if i ≤ t then (l[t - i]?).getD .any else .any
  | [], i, t => by simp [idxE, gt]
  | x :: r, i, t => by
    simp only [idxE]
    rw [gt_cons]
    by_cases h : i = t
    · subst h; simp
    · rw [if_neg h, idxE_gt r (Nat.succ i) t]
      by_cases h1 : Nat.succ i ≤ t
      · rw [if_pos h1, if_pos (by omega), show t - i = (t - Nat.succ i) + 1 by omega]; simp
      · rw [if_neg h1, if_neg (by omega)]

theorem argR_get {A Im : Nat → Prop} {β : Nat → Value} {M : Mem} (hA : ∀ b, A b → Im b) : (gs : List Bool) → (ts : List T) → (x : denL ts) → (us : List Value) → ArgR A w gs ts x us → (qs : List TypeId) → (m : Nat) → gs = ap (qs.map (fun q => (B.τ q).agg)) (repL false m) → us.length = gs.length ∧ (argV B qs ts x).length = gs.length ∧ allP (okL ts x) ∧
    ∀ (i : Nat) (v : V) (u : Value), (argV B qs ts x)[i]? = some v → us[i]? = some u → RelS β M Im w v u
  | [], [], x, us, h, qs, _, _ => by simp only [ArgR] at h; subst h; exact ⟨rfl, by cases qs <;> rfl, trivial, fun i v u hv => by cases qs <;> simp [argV] at hv⟩
  | [], _ :: _, x, us, h, _, _, _ => by simp [ArgR] at h
  | _ :: _, [], x, us, h, _, _, _ => by simp [ArgR] at h
  | g :: gs, t :: ts, x, us, h, [], m, e => by
    simp only [ArgR] at h
    obtain ⟨u, us', vs, rfl, h1, h2, h3, h4⟩ := h
    cases m with
    | zero => simp [ap, repL] at e
    | succ m =>
      simp only [List.map_nil, ap, repL, List.cons.injEq] at e
      obtain ⟨i1, i2, i3, i4⟩ := argR_get (β := β) (M := M) hA gs ts x.2 us' h4 [] m (by simpa only [List.map_nil, ap] using e.2)
      refine ⟨by simp [i1], by simp [argV, i2], by simp only [okL, allP_ap]; exact ⟨oks_of_ok _ _ (RelF.ok _ _ _ h3), i3⟩, fun i v u' hv hu => ?_⟩
      cases i with
      | zero =>
        simp only [argV, List.getElem?_cons_zero, Option.some.injEq] at hv hu
        subst hv; subst hu
        have r : RelC β M Im w (expl t x.1) vs := expl_rel t x.1 vs (RelF.keep (fun b hb => ⟨hA b hb, rfl⟩) _ _ _ h3)
        have := h2 e.1
        subst this
        exact relS_of_relC r
      | succ i => exact i4 i v u' (by simpa [argV] using hv) (by simpa using hu)
  | g :: gs, t :: ts, x, us, h, q :: qs, m, e => by
    simp only [ArgR] at h
    obtain ⟨u, us', vs, rfl, h1, h2, h3, h4⟩ := h
    simp only [List.map_cons, ap, List.cons.injEq] at e
    obtain ⟨i1, i2, i3, i4⟩ := argR_get (β := β) (M := M) hA gs ts x.2 us' h4 qs m e.2
    refine ⟨by simp [i1], by simp [argV, i2], by simp only [okL, allP_ap]; exact ⟨oks_of_ok _ _ (RelF.ok _ _ _ h3), i3⟩, fun i v u' hv hu => ?_⟩
    cases i with
    | zero =>
      simp only [argV, List.getElem?_cons_zero, Option.some.injEq] at hv hu
      subst hv; subst hu
      have r : RelC β M Im w (expl t x.1) vs := expl_rel t x.1 vs (RelF.keep (fun b hb => ⟨hA b hb, rfl⟩) _ _ _ h3)
      rw [← e.1]
      cases g with
      | true => simp only [aggV, cond_true, RelS]; exact ⟨vs, h1 rfl, r⟩
      | false =>
        have := h2 rfl
        subst this
        simp only [aggV, cond_false]
        exact relS_of_relC r
    | succ i => exact i4 i v u' (by simpa [argV] using hv) (by simpa using hu)

/-- The contract of a function, out of its law. -/
theorem ct_of (hΦ : Good P Φ) (hB : TabOk P B) (hmix : P.follows .mixedOrders = true) {f : FuncId} {fn : Func} {c : Code} (hf : P.funcs[f]? = some fn) (hb : fn.body = some c) (hn : (fn.name == "runtime.NumGoroutine") = false) (ct : Ct) (hmu : ct.mu = none) (A : Ann) (cut : Nat → Nat)
    (hga : ct.ga = agL B fn) (hfl : orb ct.sh (flatL ct.rt) = true) (hck : okC fn.ntmps cut c = true) (hlen : ct.ga.length ≤ fn.ntmps)
    (h : ∀ x, allP (okL ct.args x) → allP (ct.pre x) → evF B Φ cut fn c A ct x (fun r => r = ct.res x)) : CtOk P f ct := by
  refine ⟨callable_of hf hb hn, ?_⟩
  simp only [hmu]
  intro Ab w us x hA hrel hpre
  let F : Fr := ⟨w, w, Ab, fun _ => False, fun _ => False, fn.ntmps, fun _ => none⟩
  let p0 : Ow := ⟨fun _ => undef, fun _ _ => False, fun _ => False⟩
  have himm : ∀ b, Ab b → Imm F p0 [] w b := fun b hb => ⟨hA b hb, .inl hb, fun h => h, fun k hk => by simp [Live, go] at hk⟩
  obtain ⟨l1, l2, l3, l4⟩ := argR_get (B := B) (β := p0.β) (M := []) himm ct.ga ct.args x us hrel (toL fn.params) fn.nfree hga
  have hst : St F p0 (idxE 0 (argV B (toL fn.params) ct.args x)) [] { tmps := us.toArray ++ Array.replicate (fn.ntmps - us.toArray.size) undef, defers := [] } w := by
    refine ⟨rfl, by simp [F]; omega, fun t v ht => by simp [F] at ht, fun b hb => hb.elim, fun b hb => hb, fun t => ?_, ⟨fun k o hk => by simp [go] at hk, fun k k' b _ hk => by simp [Live, go] at hk, fun k b hk => by simp [Live, go] at hk, fun b hb => hb.elim, rfl, rfl, rfl, Nat.le_refl _, fun b _ _ => rfl⟩⟩
    rw [idxE_gt]
    simp only [Nat.zero_le, if_true, Nat.sub_zero]
    cases hx : (argV B (toL fn.params) ct.args x)[t]? with
    | none => simp only [Option.getD_none, RelS]
    | some v =>
      have ht := (List.getElem?_eq_some_iff.1 hx).1
      have hu : us[t]? = some us[t] := List.getElem?_eq_getElem (by omega)
      simp only [Option.getD_some]
      have : (us.toArray ++ Array.replicate (fn.ntmps - us.toArray.size) undef).getD t undef = us[t] := by
        rw [Array.getD_eq_getD_getElem?, Array.getElem?_append_left (by
          have := (List.getElem?_eq_some_iff.1 hu).1
          simpa using this)]
        simp [hu]
      rw [this]
      exact l4 t v _ hx hu
  refine calls_of_wp hf hb (Code.wp_mono (fun e a' w' he => ?_) (ev_ok hΦ hB hmix cut c F A _ _ _ hck (free_none c) (h x l3 hpre) p0 _ w hst))
  have key : ∀ p env M, St F p env M a' w' → endL (resL B env M (toL fn.results) ct.rt) (fun r => r = ct.res x) → (e = .normal ∨ e = .ret) → bodyPost P fn (fun e w' => ∃ rs S, e = .returned (oneT rs) ∧ Ext w w' ∧ (∀ b, S b → w.heap.size ≤ b ∧ b < w'.heap.size) ∧
      ResR (fun b => b < w'.heap.size ∧ (ct.sh = true ∧ Ab b ∨ w.heap.size ≤ b) ∧ ¬ S b) w' ct.rt (ct.res x) S rs) e a' w' := by
    intro p env M hs hr hee
    unfold endL at hr
    split at hr
    · rename_i r hres
      subst hr
      obtain ⟨rs, p', M', S, k1, k2, k3, k4, k5, k6, k7⟩ := resL_ok (P := P) (a := a') hB (toL fn.results) ct.rt p env M _ hs.hp hs.slots hres
      rw [toL_eq] at k1
      have hrun : (results fn a'.tmps).run P w' = .ok (oneT rs) w' := by
        rw [results_eq, Array.mapM_eq_mapM_toList]
        simp only [Sem.run_bind, Sem.run_map, k1, Result.andThen_ok, Sem.run_pure]
        match rs with
        | [] => rfl
        | [u] => rfl
        | u :: u' :: r => simp [oneT]
      have hpost : ∃ rs' S, Ending.returned (oneT rs) = .returned (oneT rs') ∧ Ext w w' ∧ (∀ b, S b → w.heap.size ≤ b ∧ b < w'.heap.size) ∧ ResR (fun b => b < w'.heap.size ∧ (ct.sh = true ∧ Ab b ∨ w.heap.size ≤ b) ∧ ¬ S b) w' ct.rt (ct.res x) S rs' := by
        refine ⟨rs, S, rfl, ⟨k2.os, k2.tape, k2.output, k2.size, fun b hb => k2.old b hb (fun h => h)⟩, fun b hb => ⟨(k2.lim b (k5 b hb)).2.1, (k2.lim b (k5 b hb)).1⟩, ?_⟩
        rw [orb_eq, Bool.or_eq_true] at hfl
        rcases hfl with hsh | hfl
        · refine ResR.keep (fun b hb => ⟨hb.1, ?_, fun hS => hb.2.2.1 (k5 b hS)⟩) _ _ _ _ k7
          rcases hb.2.1 with h1 | h1 | h1
          · exact .inl ⟨hsh, h1⟩
          · exact h1.elim
          · exact .inr h1
        · exact flat_res _ hfl _ _ _ k7
      rcases hee with rfl | rfl
      · exact ⟨hs.defers, _, hrun, hpost⟩
      · exact ⟨hs.defers, _, hrun, hpost⟩
    · exact hr.elim
  cases e with
  | normal => obtain ⟨p, env, M, h1, h2⟩ := he; exact key p env M h1 h2 (.inl rfl)
  | ret => obtain ⟨p, env, M, h1, h2⟩ := he; exact key p env M h1 h2 (.inr rfl)
  | exit id => obtain ⟨p, env, M, h1, h2⟩ := he; exact h2.elim
  | goto l => exact he.elim
  | panic ch => exact he.elim
  | outgrown => exact he.elim

end
end Go.Bm

/- The typed machine: what comes in, as data. -/
namespace Go.Bm
open Go.RowKit

/-- the fields of a struct, as a chain -/
def typedF (P : Program) (r : TypeId → T → Bool) : List Field → Nat → T → Bool
  | [], _, .u => true
  | [f], off, d => allT [Nat.beq f.offset off, Nat.beq (P.cellsOf f.type) d.size, r f.type d]
  | f :: g :: l, off, .p a b => nob (allT [Nat.beq f.offset off, Nat.beq (P.cellsOf f.type) a.size, r f.type a]) (typedF P r (g :: l) (off + a.size) b)
  | _, _, _ => false
/-- Has the type this data? -/
def typed (P : Program) : Nat → TypeId → T → Bool
  | 0, _, _ => false
  | n + 1, t, d => match P.underlying t, d with
    | some (.int k), .int k' => kbeq k k'
    | some .bool, .bool => true
    | some .string, .str => true
    | some (.slice e), .sl d => allT [typed P n e d, Nat.beq (P.cellsOf e) d.size, neg (Nat.beq (P.bytesOf e) 0), neg (isZ d.size)]
    | some (.struct fs), d => nob (Nat.beq (P.cellsOf t) d.size) (typedF P (typed P n) fs.toList 0 d)
    | _, _ => false


section
variable {H : Type} {enc : TypeId × Value → H} {P : Program} {w : World} {base : Nat} {spare : Nat → Bool} {held : Bool}

theorem open_F {Im : Nat → Prop} {r : TypeId → T → Bool} {cs : List Value} : (l : List Field) → (off : Nat) → (d : T) → typedF P r l off d = true → (cs.drop off).length = d.size →
    (∀ f ∈ l, ∀ d', r f.type d' = true → ∃ y, RelF Im w d' y ((cs.drop f.offset).take (P.cellsOf f.type))) → ∃ y, RelF Im w d y (cs.drop off)
  | [], off, .u, _, hl, _ => ⟨(), by simp only [RelF]; exact List.eq_nil_of_length_eq_zero hl⟩
  | [f], off, d, h, hl, hf => by
    have h' : allT [Nat.beq f.offset off, Nat.beq (P.cellsOf f.type) d.size, r f.type d] = true := by cases d <;> simpa only [typedF] using h
    simp only [allT_cons, allT_nil, Bool.and_true, Bool.and_eq_true] at h'
    obtain ⟨y, hy⟩ := hf f (by simp) d h'.2.2
    have e1 := Nat.eq_of_beq_eq_true h'.1
    have e2 := Nat.eq_of_beq_eq_true h'.2.1
    rw [e1, e2, List.take_of_length_le (by omega)] at hy
    exact ⟨y, hy⟩
  | f :: g :: l, off, .p a b, h, hl, hf => by
    simp only [typedF, nob_eq, Bool.and_eq_true, allT_cons, allT_nil, Bool.and_true] at h
    obtain ⟨⟨h1, h2, h3⟩, h4⟩ := h
    have e1 := Nat.eq_of_beq_eq_true h1
    have e2 := Nat.eq_of_beq_eq_true h2
    obtain ⟨y, hy⟩ := hf f (by simp) a h3
    simp only [T.size, addN_eq] at hl
    obtain ⟨z, hz⟩ := open_F (g :: l) (off + a.size) b h4 (by rw [List.length_drop] at hl ⊢; omega) (fun f' hf' => hf f' (by simp [List.mem_cons] at hf' ⊢; exact .inr hf'))
    rw [e1, e2] at hy
    refine ⟨(y, z), ?_⟩
    simp only [RelF]
    refine ⟨_, _, ?_, hy, hz⟩
    rw [← List.drop_drop, List.take_append_drop]
  | [], _, .int _, h, _, _ => by simp [typedF] at h
  | [], _, .bool, h, _, _ => by simp [typedF] at h
  | [], _, .str, h, _, _ => by simp [typedF] at h
  | [], _, .p _ _, h, _, _ => by simp [typedF] at h
  | [], _, .sl _, h, _, _ => by simp [typedF] at h
  | [], _, .pt _, h, _, _ => by simp [typedF] at h
  | [], _, .fn _ _, h, _, _ => by simp [typedF] at h
  | [], _, .any, h, _, _ => by simp [typedF] at h
  | _ :: _ :: _, _, .int _, h, _, _ => by simp [typedF] at h
  | _ :: _ :: _, _, .bool, h, _, _ => by simp [typedF] at h
  | _ :: _ :: _, _, .str, h, _, _ => by simp [typedF] at h
  | _ :: _ :: _, _, .u, h, _, _ => by simp [typedF] at h
  | _ :: _ :: _, _, .sl _, h, _, _ => by simp [typedF] at h
  | _ :: _ :: _, _, .pt _, h, _, _ => by simp [typedF] at h
  | _ :: _ :: _, _, .fn _ _, h, _, _ => by simp [typedF] at h
  | _ :: _ :: _, _, .any, h, _, _ => by simp [typedF] at h

theorem weights_all {e : TypeId} : ∀ (l : List (DataW H)) (q : Nat → Bool), (DataW.weightsAll P e l).all q = true → ∀ d ∈ l, (d.weights P e).all q = true
  | [], q, _, d, hd => by cases hd
  | x :: l, q, h, d, hd => by
    simp only [DataW.weightsAll, List.all_append, Bool.and_eq_true] at h
    rcases List.mem_cons.1 hd with rfl | hd
    · exact h.1
    · exact weights_all l q h.2 d hd
theorem weights_each : ∀ (ts : List TypeId) (l : List (DataW H)) (q : Nat → Bool), (DataW.weightsEach P ts l).all q = true → ∀ (i : Nat) t d, ts[i]? = some t → l[i]? = some d → (d.weights P t).all q = true
  | [], _, q, _, i, t, d, ht, _ => by simp at ht
  | _ :: _, [], q, _, i, t, d, _, hd => by simp at hd
  | t0 :: ts, x :: l, q, h, i, t, d, ht, hd => by
    simp only [DataW.weightsEach, List.all_append, Bool.and_eq_true] at h
    cases i with
    | zero => simp at ht hd; subst ht; subst hd; exact h.1
    | succ i => exact weights_each ts l q h.2 i t d (by simpa using ht) (by simpa using hd)


theorem open_T : ∀ (n : Nat) (t : TypeId) (d : T), typed P n t d = true → ∀ (fuel : Nat) (cs : List Value) (x : DataW H × List MemPlace), DataW.trod enc P w base spare held fuel t cs = some x → (x.1.weights P t).all (· ≤ reachBytes) = true →
    ∃ y : d.den, RelF (fun b => b < w.heap.size) w d y cs := by
  intro n
  induction n with
  | zero => intro t d h; simp [typed] at h
  | succ n ih =>
    intro t d h fuel cs x hx hw
    unfold typed at h
    split at h
    · rename_i k k' hu
      have := kbeq_eq h
      subst this
      obtain ⟨m, rfl, rfl, hwf⟩ := DataW.trod_int hu hx
      exact ⟨m, by simp only [RelF, true_and]; simpa [Lit.wf, inK] using hwf⟩
    · rename_i hu
      obtain ⟨b, rfl, rfl⟩ := DataW.trod_bool hu hx
      exact ⟨b, by simp only [RelF]⟩
    · rename_i hu
      obtain ⟨s, rfl, rfl, hs⟩ := DataW.trod_string hu hx
      have hsz : s.size ≤ reachBytes := by simpa [DataW.weights] using hw
      exact ⟨s, by simp only [RelF, true_and]; exact Nat.le_trans hsz (by decide)⟩
    · rename_i e d' hu
      simp only [allT_cons, allT_nil, Bool.and_true, Bool.and_eq_true] at h
      obtain ⟨h1, h2, h3, h4⟩ := h
      have e2 := Nat.eq_of_beq_eq_true h2
      rcases DataW.trod_slice hu hx with ⟨rfl, rfl⟩ | ⟨a, len, cap, elems, rest, m, _, rfl, rfl, hb, hl, hm, hlen, hel, _, _⟩
      · exact ⟨[], by simp only [RelF]; exact ⟨none, 0, rfl, ⟨Nat.zero_le _, Nat.le_refl _⟩, fun _ => ⟨rfl, rfl⟩, fun a ha => by cases ha⟩⟩
      · have hpos : 0 < d'.size := by
          cases hz : d'.size with
          | zero => rw [hz] at h4; simp [isZ] at h4
          | succ _ => omega
        have hbpos : 0 < P.bytesOf e := by
          cases hz : P.bytesOf e with
          | zero => rw [hz] at h3; simp at h3
          | succ _ => omega
        simp only [DataW.weights, hu, List.all_cons, List.all_append, Bool.and_eq_true, decide_eq_true_eq, List.length_map] at hw
        obtain ⟨w1, w2, w3⟩ := hw
        have hnb : len ≤ nb := by
          have h5 : elems.length + rest.length ≤ (elems.length + rest.length) * P.bytesOf e := Nat.le_mul_of_pos_right _ hbpos
          simp only [reachBytes] at w1
          unfold nb; omega
        have hall : ∀ i, i < len → ∃ y : d'.den, ∃ csi, w.cells? base (a.add (i * d'.size)) d'.size = some csi ∧ RelF (fun b => b < w.heap.size) w d' y csi := fun i hi => by
          have hq := hel i hi
          rw [e2] at hq
          have hei : elems[i]? = some elems[i] := List.getElem?_eq_getElem (by omega)
          rw [hei] at hq
          obtain ⟨csi, q1, q2⟩ := Option.bind_eq_some_iff.1 hq
          obtain ⟨y, hy⟩ := ih e d' h1 m csi _ q2 (weights_all _ _ w2 _ (List.mem_map_of_mem (List.getElem_mem (by omega))))
          exact ⟨y, csi, q1, hy⟩
        classical
        let f : Nat → d'.den := fun i => if hi : i < len then (hall i hi).choose else d'.dflt
        refine ⟨(List.range len).map f, ?_⟩
        have hlen' : ((List.range len).map f).length = len := by simp
        simp only [RelF]
        refine ⟨some a, cap, by rw [hlen'], ⟨by rw [hlen']; exact hnb, by rw [hlen']; exact hl⟩, (fun h => nomatch h), fun a' ha' hp => ?_⟩
        cases ha'
        rw [hlen'] at hp
        obtain ⟨y0, cs0, c1, c2⟩ := hall 0 hp
        obtain ⟨g1, g2, g3⟩ := World.cells?_some c1
        have hc0 := g3 0 hpos
        have hl0 : 0 < cs0.length := by omega
        rw [List.getElem?_eq_getElem hl0] at hc0
        have hadd0 : (a.add (0 * d'.size)).add 0 = a := by rw [Nat.zero_mul]; unfold Addr.add; simp
        rw [hadd0] at hc0
        have hspot : a.spot = none := by
          unfold World.cell? at hc0
          split at hc0
          · split at hc0
            · cases hc0
            · rename_i hs; simpa using hs
          · cases hc0
        have hblk : a.block < w.heap.size := by
          unfold World.cell? at hc0
          split at hc0
          · rename_i hb; exact (Array.getElem?_eq_some_iff.1 hb).1
          · cases hc0
        refine ⟨hspot, hblk, fun i y hy => ?_⟩
        rw [List.getElem?_map] at hy
        by_cases hi : i < len
        · rw [List.getElem?_range hi] at hy
          simp only [Option.map_some, Option.some.injEq] at hy
          have hf : f i = (hall i hi).choose := by simp only [f, dif_pos hi]
          rw [hf] at hy
          obtain ⟨csi, q1, q2⟩ := (hall i hi).choose_spec
          rw [hy] at q2
          obtain ⟨r1, r2, r3⟩ := World.cells?_some q1
          refine ⟨csi, fun j u hu' => ?_, q2⟩
          have hj : j < d'.size := by have := (List.getElem?_eq_some_iff.1 hu').1; omega
          have := r3 j hj
          obtain ⟨b, o, sp⟩ := a
          simp only at hspot
          subst hspot
          rw [Addr.add_lit, Addr.add_lit] at this
          rw [this]; exact hu'
        · rw [List.getElem?_eq_none (by simpa using hi)] at hy; cases hy
    · rename_i _ fs hu
      simp only [nob_eq, Bool.and_eq_true] at h
      have e1 := Nat.eq_of_beq_eq_true h.1
      obtain ⟨xs, m, _, rfl, hl, hxl, hf⟩ := DataW.trod_struct hu hx
      simp only [DataW.weights, hu] at hw
      have := open_F (w := w) (Im := fun b => b < w.heap.size) (cs := cs) fs.toList 0 _ h.2 (by simp only [List.drop_zero]; omega) (fun f hfm d' hd' => by
        obtain ⟨i, hi, rfl⟩ := List.getElem_of_mem hfm
        have hfi : fs[i]? = some fs[i] := by simp at hi; simp [hi]
        have hq := hf i _ hfi
        have hi' : i < xs.length := by simp at hi; omega
        rw [List.getElem?_eq_getElem hi'] at hq
        have hww := weights_each _ _ _ hw i fs[i].type xs[i].1 (by simp at hi; simp [hi]) (by simp [hi'])
        simpa using ih _ d' (by simpa using hd') m _ _ hq hww)
      simpa only [List.drop_zero] using this
    · cases h

end
end Go.Bm

/- The typed machine: what a statement asks of a law. -/
namespace Go.Bm
open Go.RowKit

/-- The contract of a law: it returns true. -/
def lawCt (args : List T) (ga : List Bool) : Ct := ⟨args, ga, fun _ => [], [(false, .fz .bool)], fun _ => (true, ()), false, none⟩

theorem law_of_ct {P : Program} {f : FuncId} {args : List T} {ga : List Bool} (h : CtOk P f (lawCt args ga)) {vs : List Value} {w : World} {x : denL args} (hr : ArgR (fun b => b < w.heap.size) w ga args x vs) :
    Calls P f vs.toArray w fun e w' => e = .returned (.bool true) ∧ Below w.heap.size w w' :=
  (h.2 (fun b => b < w.heap.size) w vs x (fun _ hb => hb) hr trivial).mono fun e w' ⟨rs, S, he, hx, _, hres⟩ => by
    simp only [lawCt, ResR] at hres
    obtain ⟨u, us', us, S1, S2, rfl, _, g2, _, _, _, hrel, rfl⟩ := hres
    have := g2 trivial
    subst this
    simp only [Rel, RelF, List.cons.injEq, and_true] at hrel
    subst hrel
    exact ⟨he, hx.os, hx.tape, hx.output, hx.size, fun k hk => hx.old k hk⟩

end Go.Bm

/- The typed machine: what a function's law is made of: loops, tables of contracts, measures of data. -/
namespace Go.Bm
open Go.RowKit

def bodyOf (f : Func) : Code := match f.body with | some c => c | none => .skip
def lkp : List (Nat × Ct) → FuncId → Option Ct
  | [], _ => none
  | (k, c) :: r, f => bif Nat.beq k f then some c else lkp r f
theorem good_nil {P : Program} : Good P (lkp []) := fun f ct h => by cases h
theorem good_cons {P : Program} {k : Nat} {c : Ct} {r : List (Nat × Ct)} (h : CtOk P k c) (hr : Good P (lkp r)) : Good P (lkp ((k, c) :: r)) := by
  intro f ct hf
  simp only [lkp] at hf
  cases hb : Nat.beq k f with
  | true =>
    rw [hb] at hf
    have := Nat.eq_of_beq_eq_true hb
    subst this
    cases hf
    exact h
  | false => rw [hb] at hf; exact hr f ct hf
def cutL : List (Nat × Nat) → Nat → Nat
  | [], _ => 0
  | (k, c) :: r, f => bif Nat.beq k f then c else cutL r f

/-- A loop: what holds in each round, and what falls. -/
theorem loop_of {S : Type} {body : S → (S → Prop) → Prop} (R : S → Prop) (μ : S → Nat)
    (h : ∀ s next, R s → (∀ s', R s' → μ s' < μ s → next s') → body s next) {s : S} (hs : R s) : loopW body s := by
  have key : ∀ n s, R s → μ s < n → iterW body n s := by
    intro n
    induction n with
    | zero => intro s _ h; omega
    | succ n ih => intro s hs hn; exact h s _ hs fun s' hs' hl => ih s' hs' (by omega)
  exact ⟨μ s + 1, key _ s hs (Nat.lt_succ_self _)⟩

/-- A loop over an index alone. -/
theorem loop_ix {n i0 : Int} {body : (Int × Unit) × Unit → ((Int × Unit) × Unit → Prop) → Prop} (P : Int → Prop) (hn : i0 ≤ n) (h0 : P i0)
    (hs : ∀ i next, i0 ≤ i → i < n → P i → (P (i + 1) → next ((i + 1, ()), ())) → body ((i, ()), ()) next) (he : ∀ next, P n → body ((n, ()), ()) next) : loopW body ((i0, ()), ()) := by
  refine loop_of (fun s => i0 ≤ s.1.1 ∧ s.1.1 ≤ n ∧ P s.1.1) (fun s => (n - s.1.1).toNat) ?_ ⟨Int.le_refl _, hn, h0⟩
  rintro ⟨⟨i, _⟩, _⟩ next ⟨h1, h2, h3⟩ hnx
  dsimp only at h1 h2 h3 hnx
  by_cases e : i = n
  · subst e; exact he next h3
  · exact hs i next h1 (by omega) h3 fun h4 => hnx _ ⟨by dsimp only; omega, by dsimp only; omega, h4⟩ (by dsimp only; omega)

/-- The same, beside a tree that stays as it is. -/
theorem loop_ix1 {α : Type} {x : α} {n i0 : Int} {body : (Unit × (Int × Unit)) × (α × Unit) → ((Unit × (Int × Unit)) × (α × Unit) → Prop) → Prop} (P : Int → Prop) (hn : i0 ≤ n) (h0 : P i0)
    (hs : ∀ i next, i0 ≤ i → i < n → P i → (P (i + 1) → next (((), (i + 1, ())), (x, ()))) → body (((), (i, ())), (x, ())) next) (he : ∀ next, P n → body (((), (n, ())), (x, ())) next) : loopW body (((), (i0, ())), (x, ())) := by
  refine loop_of (fun s => s.2.1 = x ∧ i0 ≤ s.1.2.1 ∧ s.1.2.1 ≤ n ∧ P s.1.2.1) (fun s => (n - s.1.2.1).toNat) ?_ ⟨rfl, Int.le_refl _, hn, h0⟩
  rintro ⟨⟨_, i, _⟩, y, _⟩ next ⟨hy, h1, h2, h3⟩ hnx
  dsimp only at hy h1 h2 h3 hnx
  subst hy
  by_cases e : i = n
  · subst e; exact he next h3
  · exact hs i next h1 (by omega) h3 fun h4 => hnx _ ⟨rfl, by dsimp only; omega, by dsimp only; omega, h4⟩ (by dsimp only; omega)

theorem drop_c {α : Type} (l : List α) (d : α) {i : Int} (h0 : 0 ≤ i) (h1 : i < l.length) : l.drop i.toNat = l.getD i.toNat d :: l.drop (i + 1).toNat := by
  have h : i.toNat < l.length := by omega
  rw [List.drop_eq_getElem_cons h, show (i + 1).toNat = i.toNat + 1 from by omega, List.getD_eq_getElem?_getD, List.getElem?_eq_getElem h]
  rfl
theorem drop_n {α : Type} (l : List α) {i : Int} (h1 : (l.length : Int) ≤ i) : l.drop i.toNat = [] := List.drop_eq_nil_of_le (by omega)
theorem take_c {α : Type} (l : List α) (d : α) {i : Int} (h0 : 0 ≤ i) (h1 : i < l.length) : l.take (i + 1).toNat = l.take i.toNat ++ [l.getD i.toNat d] := by
  have h : i.toNat < l.length := by omega
  rw [show (i + 1).toNat = i.toNat + 1 from by omega, List.take_succ_eq_append_getElem h, List.getD_eq_getElem?_getD, List.getElem?_eq_getElem h]
  rfl
theorem take_n {α : Type} (l : List α) {i : Int} (h1 : (l.length : Int) ≤ i) : l.take i.toNat = l := List.take_of_length_le (by omega)
theorem take_set {α : Type} (l : List α) {i : Int} (h0 : 0 ≤ i) (h1 : i < l.length) (x : α) : (l.set i.toNat x).take (i + 1).toNat = l.take i.toNat ++ [x] := by
  have h : i.toNat < l.length := by omega
  rw [show (i + 1).toNat = i.toNat + 1 from by omega, List.take_succ_eq_append_getElem (by simpa using h)]
  rw [List.take_set_of_le (by omega)]; simp
theorem getD_mem {α : Type} (l : List α) (d : α) {i : Int} (h0 : 0 ≤ i) (h1 : i < l.length) : l.getD i.toNat d ∈ l := by
  have h : i.toNat < l.length := by omega
  rw [List.getD_eq_getElem?_getD, List.getElem?_eq_getElem h]
  exact List.getElem_mem h

theorem inK64 {n : Int} : inK .i64 n ↔ -9223372036854775808 ≤ n ∧ n ≤ 9223372036854775807 := by
  simp [inK, IntKind.min, IntKind.max, IntKind.signed, IntKind.bits]
theorem nb_eq : nb = 140737488355328 := rfl
theorem cnd_of {b : Bool} {x y : Prop} (h1 : b = true → x) (h2 : b = false → y) : cnd b x y := ⟨h1, h2⟩
theorem cnd_d {p : Prop} [Decidable p] {x y : Prop} (h1 : p → x) (h2 : ¬ p → y) : cnd (decide p) x y := ⟨fun h => h1 (of_decide_eq_true h), fun h => h2 (of_decide_eq_false h)⟩
theorem join_of {S : Type} {k : S → Prop} {f : (S → Prop) → Prop} (R : S → Prop) (hk : ∀ s, R s → k s) (hf : ∀ k', (∀ s, R s → k' s) → f k') : joinW k f := hf k hk

/-- a contract out of what the evaluator gives -/
theorem ct_by {P : Program} {B : Tab} {Φ : FuncId → Option Ct} (hΦ : Good P Φ) (hB : TabOk P B) (hmix : P.follows .mixedOrders = true) {f : FuncId} {fn : Func} {c : Code} (hf : P.funcs[f]? = some fn) (hb : fn.body = some c) (hn : (fn.name == "runtime.NumGoroutine") = false) (ct : Ct) (hmu : ct.mu = none) (A : Ann) (cut : Nat → Nat)
    (hga : ct.ga = agL B fn) (hfl : orb ct.sh (flatL ct.rt) = true) (hck : okC fn.ntmps cut c = true) (hlen : ct.ga.length ≤ fn.ntmps)
    (W : denL ct.args → (denR ct.rt → Prop) → Prop) (hw : ∀ x K, evF B Φ cut fn c A ct x K = W x K) (hm : ∀ x, allP (okL ct.args x) → allP (ct.pre x) → W x (fun r => r = ct.res x)) : CtOk P f ct :=
  ct_of hΦ hB hmix hf hb hn ct hmu A cut hga hfl hck hlen fun x h1 h2 => (hw x _).mpr (hm x h1 h2)

/-- A function that calls itself: its contract by a bound that falls. -/
theorem ct_rec {P : Program} {f : FuncId} {args : List T} {ga : List Bool} {rt : List (Bool × O)} {pre : denL args → List Prop} {q : Nat → denL args → List Prop} {res : denL args → denR rt} {sh : Bool} (hc : Callable P f)
    (h0 : ∀ x, ¬ allP (q 0 x)) (hp : ∀ x, allP (pre x) → ∃ n, allP (q n x)) (hs : ∀ n, CtOk P f ⟨args, ga, q n, rt, res, sh, none⟩ → CtOk P f ⟨args, ga, q (n + 1), rt, res, sh, none⟩) : CtOk P f ⟨args, ga, pre, rt, res, sh, none⟩ := by
  have key : ∀ n, CtOk P f ⟨args, ga, q n, rt, res, sh, none⟩ := by
    intro n
    induction n with
    | zero => exact ⟨hc, fun A w us x _ _ h => absurd h (h0 x)⟩
    | succ n ih => exact hs n ih
  refine ⟨hc, fun A w us x hA hr h => ?_⟩
  obtain ⟨n, hn⟩ := hp x h
  exact (key n).2 A w us x hA hr hn

/-- data compared -/
def T.dec : (t : T) → DecidableEq t.den
  | .int _ => fun a b => decEq (α := Int) a b
  | .bool => fun a b => decEq (α := Bool) a b
  | .str => fun a b => decEq (α := ByteArray) a b
  | .u => fun _ _ => isTrue rfl
  | .p a b => @instDecidableEqProd a.den b.den a.dec b.dec
  | .sl e => @instDecidableEqList e.den e.dec
  | .pt t => t.dec
  | .fn _ t => t.dec
  | .any => fun _ _ => isTrue rfl
def eqR (t : T) (a b : t.den) : Bool := @decide (a = b) (t.dec a b)
theorem eqR_iff {t : T} {a b : t.den} : eqR t a b = true ↔ a = b := by simp [eqR]
@[simp] theorem eqR_self {t : T} (a : t.den) : eqR t a a = true := eqR_iff.2 rfl
theorem eqR_f {t : T} {a b : t.den} (h : a ≠ b) : eqR t a b = false := by
  cases h' : eqR t a b with
  | false => rfl
  | true => exact absurd (eqR_iff.1 h') h

/-- how many elements there are in all -/
def wR : (t : T) → t.den → Nat
  | .int _, _ => 0
  | .bool, _ => 0
  | .str, s => s.size
  | .u, _ => 0
  | .p a b, x => wR a x.1 + wR b x.2
  | .sl e, l => l.length + (l.map (wR e)).sum
  | .pt t, x => wR t x
  | .fn _ t, x => wR t x
  | .any, _ => 0
theorem wR_sl {e : T} (l : List e.den) : wR (.sl e) l = l.length + (l.map (wR e)).sum := rfl
theorem wR_p {a b : T} (x : a.den × b.den) : wR (.p a b) x = wR a x.1 + wR b x.2 := rfl
theorem wR_int {k : IntKind} (x : Int) : wR (.int k) x = 0 := rfl
theorem wR_bool (x : Bool) : wR .bool x = 0 := rfl
theorem wR_mem {e : T} {l : List e.den} {x : e.den} (h : x ∈ l) : wR e x ≤ (l.map (wR e)).sum := by
  induction l with
  | nil => cases h
  | cons y l ih =>
    simp only [List.map_cons, List.sum_cons]
    cases h with
    | head => omega
    | tail _ h => have := ih h; omega
theorem sum_wint {k : IntKind} (l : List Int) : (l.map (wR (.int k))).sum = 0 := by
  induction l with
  | nil => rfl
  | cons x l ih => rw [List.map_cons, List.sum_cons, ih]; rfl
theorem wR_ints {k : IntKind} (l : List Int) : wR (.sl (.int k)) l = l.length := by rw [wR, sum_wint]; rfl
def szR (n : Nat) (left : Int) : Int := if left < n then -1 else left - n

theorem szR_neg {n : Nat} {l : Int} : szR n l < 0 ↔ l < n := by unfold szR; split <;> omega
theorem szR_lt {x r : Nat} {l : Int} (h : l < x) : szR (x + r) l = -1 := by unfold szR; rw [if_pos (by omega)]
theorem szR_ge {x r : Nat} {l : Int} (h : ¬ l < x) : szR (x + r) l = szR r (szR x l) := by unfold szR; rw [if_neg h]; split <;> split <;> omega
theorem szR_val {x : Nat} {l : Int} (h : ¬ l < x) : szR x l = l - x := by unfold szR; rw [if_neg h]
theorem szR_zero {l : Int} (h : 0 ≤ l) : szR 0 l = l := by unfold szR; split <;> omega
theorem eqR_p {a b : T} (x y : a.den × b.den) : eqR (.p a b) x y = (eqR a x.1 y.1 && eqR b x.2 y.2) := by
  rw [Bool.eq_iff_iff]
  simp only [eqR_iff, Bool.and_eq_true]
  exact Prod.ext_iff
theorem eqR_int {k : IntKind} (x y : Int) : eqR (.int k) x y = (x == y) := by
  rw [Bool.eq_iff_iff]; simp only [eqR_iff, beq_iff_eq]
theorem eqR_bool (x y : Bool) : eqR .bool x y = (x == y) := by
  rw [Bool.eq_iff_iff]; simp only [eqR_iff, beq_iff_eq]
end Go.Bm

/- The typed machine: an argument of a law, as it comes in. -/
namespace Go.Bm
open Go.RowKit Go.WideShapes

def aggB (P : Program) (t : TypeId) : Bool := match P.underlying t with | some (.struct _) => true | _ => false

theorem open_arg {H : Type} {enc : TypeId × Value → H} {P : Program} {W : World} {base b1 : Nat} {spare : Nat → Bool} {held : Bool} {t : TypeId} {v : Value} {dd : DataW H} {ps : List MemPlace} (n : Nat) (d : T) (g : Bool)
    (hty : typed P n t d = true) (hg : aggB P t = g) (hv : Value.okWide P W .any b1 t v) (hk : DataW.Trod enc P W base spare held t v dd ps) (hw : (dd.weights P t).all (· ≤ reachBytes) = true) :
    ∃ (y : d.den) (vs : List Value), (g = true → v = .agg vs.toArray) ∧ (g = false → vs = [v]) ∧ RelF (fun b => b < W.heap.size) W d y vs := by
  obtain ⟨fuel, hf⟩ := hk
  obtain ⟨y, hy⟩ := open_T n t d hty fuel _ _ hf hw
  refine ⟨y, v.cells.toList, fun h => ?_, fun h => ?_, hy⟩
  · subst hg
    simp only [aggB] at h
    split at h
    · rename_i fs hu
      obtain ⟨cs, rfl, _⟩ := okWide_struct hu hv
      simp [Value.cells]
    · cases h
  · subst hg
    cases n with
    | zero => simp [typed] at hty
    | succ n =>
      unfold typed at hty
      split at hty
      · rename_i k k' hu; obtain ⟨m, rfl⟩ := okWide_int hu hv; rfl
      · rename_i hu; obtain ⟨m, rfl⟩ := okWide_bool hu hv; rfl
      · rename_i hu; obtain ⟨m, rfl⟩ := okWide_string hu hv; rfl
      · rename_i e d' hu; obtain ⟨a, l, c, rfl⟩ := okWide_slice hu hv; rfl
      · rename_i fs hu; simp [aggB, hu] at h
      · cases hty

end Go.Bm

/- The typed machine: a function that writes what it is handed. -/
namespace Go.Bm
open Go.RowKit

/-- the contract of a function that writes what it is handed -/
def mtCt (m : Mt) : Ct := ⟨[], [], fun _ => [], [], fun _ => (), false, some (.m m)⟩

def asI : V → Option Int
  | .d t y => castT (a := t) (.int .i64) y
  | _ => none
/-- at the end: what lies there, and the number -/
def endMv (B : Tab) (rs : List ResultVar) (m : Mt) (K : m.o.strip.den → Int → Prop) (env : Env) (M : Mem) : Prop :=
  match rs with
  | [r] => bif nodupN (vkeys (gt env 0).cells) then (match resV B env M r with
    | some v => (match asI v, gath M m.o (gt env 0).cells with
      | some n, some x => K x n
      | _, _ => False)
    | none => False) else False
  | _ => False
def endM (B : Tab) (rs : List ResultVar) (m : Mt) (K : m.o.strip.den → Int → Prop) : Ex → Env → Mem → Prop
  | .ex _, _, _ => False
  | .nm, env, M => endMv B rs m K env M
  | .rt, env, M => endMv B rs m K env M
def evFm (B : Tab) (Φ : FuncId → Option Ct) (cut : Nat → Nat) (fn : Func) (c : Code) (A : Ann) (m : Mt) (x : m.o.strip.den) (k : Int) (K : m.o.strip.den → Int → Prop) : Prop :=
  match newO 9000 0 m.o x with
  | (v, N, _) => ev B Φ cut c A (endM B (toL fn.results) m K) (idxE 0 [aggV m.g v, .d (.int .i64) k]) N

def noPt : O → Bool
  | .fz _ => true
  | .p a b => nob (noPt a) (noPt b)
  | .sl _ => true
  | .pt _ => false

section
variable {w : World}

/-- What is handed in, as own trees. -/
structure Inn (w : World) (j j' : Nat) (N : Mem) (v : V) (vs : List Value) (S : Nat → Prop) (β : Nat → Value) (σ : Nat → Nat → Prop) : Prop where
  le : j ≤ j'
  keys : ∀ k, Live N k → ∃ i, j ≤ i ∧ i < j' ∧ k = cid 9000 i
  objs : ∀ (Im : Nat → Prop) k ob, go N k = some ob → Rel Im w ob.o ob.x (σ k) [β k]
  sub : ∀ k b, Live N k → σ k b → S b
  dis : ∀ k k' b, k ≠ k' → Live N k → Live N k' → σ k b → ¬ σ k' b
  val : ∀ (Im : Nat → Prop) (β' : Nat → Value) (M' : Mem), (∀ k, Live N k → β' k = β k ∧ go M' k = go N k) → RelC β' M' Im w v vs

theorem inn_of : (o : O) → noPt o = true → o.flat = true → (j : Nat) → (x : o.strip.den) → (S : Nat → Prop) → (vs : List Value) → Rel (fun _ => False) w o x S vs →
    ∃ β σ, Inn w j (newO 9000 j o x).2.2 (newO 9000 j o x).2.1 (newO 9000 j o x).1 vs S β σ
  | .fz t, _, hf, j, x, S, vs, r => by
    simp only [Rel] at r
    simp only [O.flat] at hf
    refine ⟨fun _ => undef, fun _ _ => False, Nat.le_refl _, fun k hk => ?_, fun Im k ob hk => ?_, fun k b _ h => h.elim, fun k k' b _ _ _ h => h.elim, fun Im β' M' _ => ?_⟩
    · simp [newO, Live, go] at hk
    · simp [newO, go] at hk
    · simp only [newO]; exact expl_rel t x vs (flat_relF t hf x vs r)
  | .sl e, _, hf, j, x, S, vs, r => by
    have r0 := r
    simp only [Rel] at r0
    obtain ⟨v, ety, xs, T, rfl, _⟩ := r0
    refine ⟨fun _ => v, fun _ => S, Nat.le_succ _, fun k hk => ⟨j, Nat.le_refl _, Nat.lt_succ_self _, ?_⟩, fun Im k ob hk => ?_, fun k b _ h => h, fun k k' b hne hk hk' => ?_, fun Im β' M' h => ?_⟩
    · simp only [newO, Live, go_cons] at hk
      split at hk
      · rename_i h; exact h.symm
      · simp [go] at hk
    · simp only [newO, go_cons] at hk
      split at hk
      · cases hk; exact flat_rel _ hf _ _ _ r
      · simp [go] at hk
    · exfalso
      have one : ∀ k, Live (newO 9000 j (.sl e) x).2.1 k → k = cid 9000 j := fun k hk => by
        simp only [newO, Live, go_cons] at hk
        split at hk
        · rename_i h; exact h.symm
        · simp [go] at hk
      exact hne ((one k hk).trans (one k' hk').symm)
    · have hl : Live (newO 9000 j (.sl e) x).2.1 (cid 9000 j) := by simp [newO, Live, go_cons]
      obtain ⟨h1, h2⟩ := h _ hl
      simp only [newO, RelC]
      have hg : go M' (cid 9000 j) = some (⟨.sl e, x⟩ : Ob) := by rw [h2]; simp only [newO, go_cons, if_true]
      refine ⟨_, none, hg, by simp only [gok], ⟨⟨.sl e, x⟩, by simp only [get]⟩, by simp only [res, h1]⟩
  | .pt _, h, _, _, _, _, _, _ => by cases h
  | .p a b, h, hf, j, x, S, vs, r => by
    simp only [O.flat, nob_eq, Bool.and_eq_true] at hf
    simp only [noPt, nob_eq, Bool.and_eq_true] at h
    simp only [Rel] at r
    obtain ⟨va, vb, S1, S2, rfl, s1, s2, s3, ra, rb⟩ := r
    obtain ⟨βa, σa, A⟩ := inn_of a h.1 hf.1 j x.1 S1 va ra
    obtain ⟨βb, σb, B⟩ := inn_of b h.2 hf.2 (newO 9000 j a x.1).2.2 x.2 S2 vb rb
    simp only [newO]
    generalize newO 9000 j a x.1 = q1 at A B ⊢
    obtain ⟨v1, N1, j1⟩ := q1
    simp only at A B ⊢
    generalize newO 9000 j1 b x.2 = q2 at B ⊢
    obtain ⟨v2, N2, j2⟩ := q2
    simp only at B ⊢
    have hne : ∀ k, Live N1 k → ¬ Live N2 k := fun k h1 h2 => by
      obtain ⟨i, _, i2, i3⟩ := A.keys k h1
      obtain ⟨i', i1', _, i3'⟩ := B.keys k h2
      have := cid_inj (i3.symm.trans i3')
      omega
    have hgo : ∀ k, go (ap N2 N1) k = match go N2 k with | some ob => some ob | none => go N1 k := fun k => by
      exact go_ap N2 N1 k
    have hlv : ∀ k, Live (ap N2 N1) k → Live N1 k ∧ go (ap N2 N1) k = go N1 k ∨ Live N2 k ∧ go (ap N2 N1) k = go N2 k := fun k hk => by
      have := hgo k
      cases h2 : go N2 k with
      | some ob => rw [h2] at this; exact .inr ⟨go_live h2, this⟩
      | none => rw [h2] at this; simp only at this; exact .inl ⟨by unfold Live at hk ⊢; rw [← this]; exact hk, this⟩
    have h1l : ∀ k, Live N1 k → Live (ap N2 N1) k ∧ go (ap N2 N1) k = go N1 k := fun k hk => by
      have := hgo k
      cases h2 : go N2 k with
      | some ob => exact (hne k hk (go_live h2)).elim
      | none => rw [h2] at this; simp only at this; exact ⟨by unfold Live; rw [this]; exact hk, this⟩
    have h2l : ∀ k, Live N2 k → Live (ap N2 N1) k ∧ go (ap N2 N1) k = go N2 k := fun k hk => by
      have := hgo k
      obtain ⟨ob, hob⟩ := live_go hk
      rw [hob] at this ⊢
      exact ⟨go_live this, this⟩
    obtain ⟨β, σ, e1, e2⟩ : ∃ (β : Nat → Value) (σ : Nat → Nat → Prop), (∀ k, Live N1 k → β k = βa k ∧ σ k = σa k) ∧ (∀ k, Live N2 k → β k = βb k ∧ σ k = σb k) := by
      classical
      exact ⟨fun k => if Live N1 k then βa k else βb k, fun k => if Live N1 k then σa k else σb k, fun k hk => by simp [hk], fun k hk => by
        have : ¬ Live N1 k := fun h => hne k h hk
        simp [this]⟩
    refine ⟨β, σ, Nat.le_trans A.le B.le, fun k hk => ?_, fun Im k ob hk => ?_, fun k b hk hs => ?_, fun k k' b hne' hk hk' hs => ?_, fun Im β' M' hv => ?_⟩
    · rcases hlv k hk with ⟨h, _⟩ | ⟨h, _⟩
      · obtain ⟨i, i1, i2, i3⟩ := A.keys k h; exact ⟨i, i1, Nat.lt_of_lt_of_le i2 B.le, i3⟩
      · obtain ⟨i, i1, i2, i3⟩ := B.keys k h; exact ⟨i, Nat.le_trans A.le i1, i2, i3⟩
    · rcases hlv k (go_live hk) with ⟨h, he⟩ | ⟨h, he⟩
      · rw [(e1 k h).1, (e1 k h).2]; exact A.objs Im k ob (by rw [← he]; exact hk)
      · rw [(e2 k h).1, (e2 k h).2]; exact B.objs Im k ob (by rw [← he]; exact hk)
    · rcases hlv k hk with ⟨h, _⟩ | ⟨h, _⟩
      · rw [(e1 k h).2] at hs; exact s1 b (A.sub k b h hs)
      · rw [(e2 k h).2] at hs; exact s2 b (B.sub k b h hs)
    · rcases hlv k hk with ⟨h, _⟩ | ⟨h, _⟩
      · rw [(e1 k h).2] at hs
        rcases hlv k' hk' with ⟨h', _⟩ | ⟨h', _⟩
        · rw [(e1 k' h').2]; exact A.dis k k' b hne' h h' hs
        · rw [(e2 k' h').2]; exact fun hs' => s3 b (A.sub k b h hs) (B.sub k' b h' hs')
      · rw [(e2 k h).2] at hs
        rcases hlv k' hk' with ⟨h', _⟩ | ⟨h', _⟩
        · rw [(e1 k' h').2]; exact fun hs' => s3 b (A.sub k' b h' hs') (B.sub k b h hs)
        · rw [(e2 k' h').2]; exact B.dis k k' b hne' h h' hs
    · simp only [RelC]
      exact ⟨va, vb, rfl, A.val Im β' M' (fun k hk => by rw [(hv k (h1l k hk).1).1, (hv k (h1l k hk).1).2, (e1 k hk).1, (h1l k hk).2]; exact ⟨rfl, rfl⟩), B.val Im β' M' (fun k hk => by rw [(hv k (h2l k hk).1).1, (hv k (h2l k hk).1).2, (e2 k hk).1, (h2l k hk).2]; exact ⟨rfl, rfl⟩)⟩

theorem gath_cellV {M : Mem} {o : O} {v : V} {x : o.strip.den} (h : gath M o v.cells = some x) : cellV v = true := by
  cases v with
  | any => cases o with
    | fz t => exact as_cellV (v := .any) (by simpa [gath, V.cells] using h)
    | _ => simp [gath, V.cells] at h
  | tup y => cases o with
    | fz t => exact as_cellV (v := .tup y) (by simpa [gath, V.cells] using h)
    | _ => simp [gath, V.cells] at h
  | gd a b c y => cases o with
    | fz t => exact as_cellV (v := .gd a b c y) (by simpa [gath, V.cells] using h)
    | _ => simp [gath, V.cells] at h
  | ifc a y => cases o with
    | fz t => exact as_cellV (v := .ifc a y) (by simpa [gath, V.cells] using h)
    | _ => simp [gath, V.cells] at h
  | _ => rfl

variable {P : Program} {B : Tab} {Φ : FuncId → Option Ct}

theorem mt_of (hΦ : Good P Φ) (hB : TabOk P B) (hmix : P.follows .mixedOrders = true) {f : FuncId} {fn : Func} {c : Code} (hf : P.funcs[f]? = some fn) (hb : fn.body = some c) (hn : (fn.name == "runtime.NumGoroutine") = false) (m : Mt) (A : Ann) (cut : Nat → Nat)
    (hfl : m.o.flat = true) (hnp : noPt m.o = true) (hck : okC fn.ntmps cut c = true) (hlen : 2 ≤ fn.ntmps) (hnw : noW [0] c = true)
    (h : ∀ x k, inK .i64 k → allP (m.o.strip.oks x) → allP (m.pre x k) → evFm B Φ cut fn c A m x k (fun y n => y = (m.res x k).1 ∧ n = (m.res x k).2)) : CtOk P f (mtCt m) := by
  refine ⟨callable_of hf hb hn, hfl, fun w u vs x k S hg1 hg2 hr hS hk hpre => ?_⟩
  let a0 : Act := { tmps := #[u, .int .i64 k] ++ Array.replicate (fn.ntmps - (#[u, .int .i64 k] : Array Value).size) undef, defers := [] }
  have hoks : allP (m.o.strip.oks x) := by
    have := Rel.frz (Im' := fun _ => True) (fun _ h => h.elim) m.o x S vs (fun _ _ => trivial) hr
    exact oks_of_ok _ _ (RelF.ok _ _ _ this)
  have he := h x k hk hoks hpre
  unfold evFm at he
  let F : Fr := ⟨w, w, fun _ => False, S, fun _ => False, fn.ntmps, mkFv (fun _ => none) [0] a0⟩
  obtain ⟨β, σ, I⟩ := inn_of m.o hnp hfl 0 x S vs hr
  generalize hq : newO 9000 0 m.o x = q at he I
  obtain ⟨v0, N, j'⟩ := q
  simp only at he I
  let p0 : Ow := ⟨β, σ, fun _ => False⟩
  have hsz : a0.tmps.size = fn.ntmps := by simp [a0]; omega
  have ht0 : a0.tmps.getD 0 undef = u := by simp [a0, Array.getD_eq_getD_getElem?, Array.getElem?_append]
  have ht1 : a0.tmps.getD 1 undef = .int .i64 k := by simp [a0, Array.getD_eq_getD_getElem?, Array.getElem?_append]
  have hp0 : Hp F p0 N w := ⟨fun k ob hk => I.objs _ k ob hk, fun k k' b hne hk hk' => I.dis k k' b hne hk hk', fun k b hk hs => ⟨hS b (I.sub k b hk hs), .inl ⟨by obtain ⟨i, _, _, e⟩ := I.keys k hk; rw [e]; unfold cid gid; exact Nat.le_add_right _ _, I.sub k b hk hs⟩⟩, fun b hb => hb.elim, rfl, rfl, rfl, Nat.le_refl _, fun b _ _ => rfl⟩
  have hst : St F p0 (idxE 0 [aggV m.g v0, .d (.int .i64) k]) N a0 w := by
    refine ⟨rfl, hsz, fun t v ht => ?_, fun b hb => hb.elim, fun b hb => hb, fun t => ?_, hp0⟩
    · simp only [F, mkFv] at ht
      cases hm : memN t [0] with
      | true => rw [hm] at ht; simpa using ht
      | false => rw [hm] at ht; cases ht
    · rw [idxE_gt]
      simp only [Nat.zero_le, if_true, Nat.sub_zero]
      match t with
      | 0 =>
        rw [ht0]
        have rc := I.val (Imm F p0 N w) β N (fun k _ => ⟨rfl, rfl⟩)
        simp only [List.getElem?_cons_zero, Option.getD_some]
        cases hg : m.g with
        | true => simp only [aggV, cond_true, RelS]; exact ⟨vs, hg1 hg, rc⟩
        | false =>
          have e := hg2 hg
          subst e
          simp only [aggV, cond_false]
          exact relS_of_relC rc
      | 1 => rw [ht1]; simp only [List.getElem?_cons_succ, List.getElem?_cons_zero, Option.getD_some]; rw [relS_d, relF_int]; exact ⟨rfl, hk⟩
      | t + 2 => simp only [List.getElem?_cons_succ, List.getElem?_nil, Option.getD_none, RelS]
  refine calls_of_wp hf hb (Code.wp_mono (fun e a' w' he => ?_) (ev_ok hΦ hB hmix cut c F A _ _ _ hck (free_mk c hnw (free_none c)) he p0 _ w hst))
  have key : ∀ p env M, St F p env M a' w' → endMv B (toL fn.results) m (fun y n => y = (m.res x k).1 ∧ n = (m.res x k).2) env M → (e = .normal ∨ e = .ret) → bodyPost P fn (fun e w' => e = .returned (.int .i64 (m.res x k).2) ∧ ExtS w w' S ∧ inK .i64 (m.res x k).2 ∧
      ∃ S' : Nat → Prop, Rel (fun _ => False) w' m.o (m.res x k).1 S' vs ∧ ∀ b, S' b → S b ∨ w.heap.size ≤ b ∧ b < w'.heap.size) e a' w' := by
    intro p env M hs hr hee
    unfold endMv at hr
    split at hr
    · rename_i rv hrv
      cases hnd : nodupN (vkeys (gt env 0).cells) with
      | false => rw [hnd] at hr; exact hr.elim
      | true =>
      rw [hnd] at hr
      simp only [cond_true] at hr
      split at hr
      · rename_i v hv
        split at hr
        · rename_i n y hn hy
          obtain ⟨rfl, rfl⟩ := hr
          obtain ⟨r, k1, k2⟩ := resV_ok (P := P) (a := a') hB hs.hp hs.slots rv v hv
          have hr1 : r = .int .i64 (m.res x k).2 ∧ inK .i64 (m.res x k).2 := by
            cases v with
            | d t z =>
              simp only [asI] at hn
              rw [relS_d] at k2
              have := castT_rel hn k2
              rw [relF_int] at this
              exact this
            | _ => simp [asI] at hn
          obtain ⟨rfl, hin⟩ := hr1
          have hu0 : a'.tmps.getD 0 undef = u := by
            have := hs.fix 0 (a0.tmps.getD 0 undef) (by simp [F, mkFv, memN])
            rw [this, ht0]
          have hs0 := hs.slots 0
          rw [hu0] at hs0
          have hrun : (results fn a'.tmps).run P w' = .ok (.int .i64 (m.res x k).2) w' := by
            rw [results_eq, Array.mapM_eq_mapM_toList]
            rw [toL_eq] at hrv
            rw [hrv]
            simp [k1]
          have hc0 : RelC p.β M (Imm F p M w') w' (gt env 0).cells vs := by
            obtain ⟨vs1, z1, z2, z3⟩ := shape_ok hs.hp hs0 (gath_cellV hy)
            cases hag : isAg (gt env 0) with
            | true =>
              have e1 := z1 hag
              cases hg : m.g with
              | true =>
                have e2 := hg1 hg
                rw [e1] at e2
                simp only [Value.agg.injEq] at e2
                have : vs1 = vs := by simpa using e2
                rw [← this]; exact z3
              | false =>
                have e2 := hg2 hg
                have := Rel.one _ _ _ _ hr u (by rw [e2]; simp)
                rw [e1] at this; cases this
            | false =>
              have e1 := z2 hag
              cases hg : m.g with
              | true =>
                have e2 := hg1 hg
                have := RelC.one hs.hp _ _ z3 u (by rw [e1]; simp)
                rw [e2] at this; cases this
              | false => rw [hg2 hg, ← e1]; exact z3
          obtain ⟨S', q1, q2, _⟩ := gath_ok hs.hp m.o hfl _ vs _ hc0 hy hnd
          have hpost : Ending.returned (.int .i64 (m.res x k).2) = .returned (.int .i64 (m.res x k).2) ∧ ExtS w w' S ∧ inK .i64 (m.res x k).2 ∧ ∃ S' : Nat → Prop, Rel (fun _ => False) w' m.o (m.res x k).1 S' vs ∧ ∀ b, S' b → S b ∨ w.heap.size ≤ b ∧ b < w'.heap.size := by
            refine ⟨rfl, ⟨hs.hp.os, hs.hp.tape, hs.hp.output, hs.hp.size, fun b hb hn => hs.hp.old b hb hn⟩, hin, S', q1, fun b hb => ?_⟩
            obtain ⟨j, _, j2, j3⟩ := q2 b hb
            have := hs.hp.own j b j2 j3
            rcases this.2 with ⟨_, h1⟩ | h1
            · exact .inl h1
            · exact .inr ⟨h1, this.1⟩
          rcases hee with rfl | rfl
          · exact ⟨hs.defers, _, hrun, hpost⟩
          · exact ⟨hs.defers, _, hrun, hpost⟩
        · exact hr.elim
      · exact hr.elim
    · exact hr.elim
  cases e with
  | normal => obtain ⟨p, env, M, h1, h2⟩ := he; exact key p env M h1 h2 (.inl rfl)
  | ret => obtain ⟨p, env, M, h1, h2⟩ := he; exact key p env M h1 h2 (.inr rfl)
  | exit id => obtain ⟨p, env, M, h1, h2⟩ := he; exact h2.elim
  | goto l => exact he.elim
  | panic ch => exact he.elim
  | outgrown => exact he.elim

end
end Go.Bm

/- The typed machine: a function that writes what lies in the box that it is handed. -/
namespace Go.Bm
open Go.RowKit

/-- its contract -/
def wtCt (W : Wt) : Ct := ⟨[], [], fun _ => [], [], fun _ => (), false, some (.w W)⟩
def tailL {α : Type} : List α → List α
  | [] => []
  | _ :: r => r

/-- the results taken out, and what is left -/
def resLM (B : Tab) (env : Env) (M : Mem) : List ResultVar → (rs : List (Bool × O)) → Option (denR rs × List Ev × Mem)
  | [], [] => some ((), [], M)
  | r :: rs, q :: qs => (match resV B env M r with
    | some v => bif cellV (resG q.1 v) then (match resO M q.2 (resG q.1 v) with
      | some (x, e, M') => (match resLM B (evEs env e) M' rs qs with
        | some (y, e', M'') => some ((x, y), ap e e', M'')
        | none => none)
      | none => none) else none
    | none => none)
  | _, _ => none
/-- at the end: what lies there, and the results -/
def endWv (B : Tab) (rs : List ResultVar) (W : Wt) (K : W.o.strip.den → denR W.rt → Prop) (env : Env) (M : Mem) : Prop :=
  match resLM B env M rs W.rt with
  | some (r, e, M') => (match (gt env 0).evs e with
    | .ad k π => bif isDe π then (match go M' k with
      | some ob => (match wkO ob (.pt W.o) with
        | some z => K z r
        | none => False)
      | none => False) else False
    | _ => False)
  | none => False
def endW (B : Tab) (rs : List ResultVar) (W : Wt) (K : W.o.strip.den → denR W.rt → Prop) : Ex → Env → Mem → Prop
  | .ex _, _, _ => False
  | .nm, env, M => endWv B rs W K env M
  | .rt, env, M => endWv B rs W K env M
def evFw (B : Tab) (Φ : FuncId → Option Ct) (cut : Nat → Nat) (fn : Func) (c : Code) (A : Ann) (W : Wt) (x : W.o.strip.den) (y : denL W.as) (K : W.o.strip.den → denR W.rt → Prop) : Prop :=
  ev B Φ cut c A (endW B (toL fn.results) W K) (idxE 0 (.ad (cid 9000 0) [.de] :: argV B (tailL (toL fn.params)) W.as y)) [(cid 9000 0, ⟨.pt W.o, x⟩)]

section
variable {F : Fr} {a : Act} {w : World} {P : Program} {B : Tab} {Φ : FuncId → Option Ct}

theorem resLM_ok (hB : TabOk P B) : (rs : List ResultVar) → (qs : List (Bool × O)) → (p : Ow) → (env : Env) → (M : Mem) → (y : denR qs) → (e : List Ev) → (M' : Mem) → Hp F p M w → (∀ t, RelS p.β M (Imm F p M w) w (gt env t) (a.tmps.getD t undef)) → resLM B env M rs qs = some (y, e, M') →
    ∃ us p', ∃ S : Nat → Prop, (rs.mapM (resM a.tmps)).run P w = .ok us w ∧ Tr F p M w e p' M' w ∧ (∀ b, p.L b → p'.L b) ∧ (∀ b, S b → p'.L b) ∧ (∀ b, S b → ¬ p.L b) ∧ ResR (Imm F p' M' w) w qs y S us
  | [], [], p, env, M, y, e, M', hp, hs, h => by
    simp only [resLM, Option.some.injEq, Prod.mk.injEq] at h
    obtain ⟨_, rfl, rfl⟩ := h
    exact ⟨[], p, fun _ => False, rfl, Tr.refl hp, fun b hb => hb, fun b hb => hb.elim, fun b hb => hb.elim, by simp only [ResR]⟩
  | [], _ :: _, p, env, M, y, e, M', hp, hs, h => by simp [resLM] at h
  | _ :: _, [], p, env, M, y, e, M', hp, hs, h => by simp [resLM] at h
  | r :: rs, q :: qs, p, env, M, y, e, M', hp, hs, h => by
    simp only [resLM] at h
    split at h
    · rename_i v hv
      cases hc : cellV (resG q.1 v) with
      | false => rw [hc] at h; cases h
      | true =>
        rw [hc] at h
        simp only [cond_true] at h
        split at h
        · rename_i x e1 M1 ho
          split at h
          · rename_i z e2 M2 hz
            cases h
            obtain ⟨u, u1, u2⟩ := resV_ok (P := P) (a := a) hB hp hs r v hv
            obtain ⟨vs, g1, g2, g3⟩ := resG_ok hp u2 hc
            obtain ⟨p1, S, t1, t2, t3, t4⟩ := resO_ok hp q.2 (resG q.1 v) vs x e1 g3 ho
            obtain ⟨us, p2, S2, k1, k3, k4, k5, k6, k7⟩ := resLM_ok hB rs qs p1 (evEs env e1) M1 z e2 M' t1.hp (fun t => by rw [gt_evEs]; exact t1.s _ _ (hs t)) hz
            refine ⟨u :: us, p2, fun b => S b ∨ S2 b, ?_, t1.trans k3, fun b hb => k4 b ((t2 b).2 (.inl hb)), fun b hb => hb.elim (fun h => k4 b ((t2 b).2 (.inr h))) (k5 b), fun b hb => hb.elim (t3 b) (fun h hL => k6 b h ((t2 b).2 (.inl hL))), ?_⟩
            · simp only [List.mapM_cons, Sem.run_bind, u1, Result.andThen_ok, k1, Sem.run_pure]
            · simp only [ResR]
              exact ⟨u, us, vs, S, S2, rfl, g1, g2, fun b hb => .inl hb, fun b hb => .inr hb, fun b hb hb' => k6 b hb' ((t2 b).2 (.inr hb)), Rel.keep k3.keep _ _ _ _ (fun _ _ => rfl) t4, k7⟩
          · cases h
        · cases h
    · cases h

theorem wt_of (hΦ : Good P Φ) (hB : TabOk P B) (hmix : P.follows .mixedOrders = true) {f : FuncId} {fn : Func} {c : Code} (hf : P.funcs[f]? = some fn) (hb : fn.body = some c) (hn : (fn.name == "runtime.NumGoroutine") = false) (W : Wt) (A : Ann) (cut : Nat → Nat)
    (hga : false :: W.ag = agL B fn) (hck : okC fn.ntmps cut c = true) (hlen : W.ag.length + 1 ≤ fn.ntmps) (hnw : noW [0] c = true)
    (h : ∀ x y, allP (W.o.strip.oks x) → allP (okL W.as y) → allP (W.pre x y) → evFw B Φ cut fn c A W x y (fun z r => z = W.new x y ∧ r = W.res x y)) : CtOk P f (wtCt W) := by
  refine ⟨callable_of hf hb hn, fun Ab w u x us y S hAlt hSlt hr hargs hpre => ?_⟩
  let a0 : Act := { tmps := (u :: us).toArray ++ Array.replicate (fn.ntmps - (u :: us).toArray.size) undef, defers := [] }
  have hoks : allP (W.o.strip.oks x) := by
    have h1 := Rel.frz (Im' := fun _ => True) (fun _ _ => trivial) (.pt W.o) x S [u] (fun _ _ => trivial) hr
    have h2 := oks_of_ok _ _ (RelF.ok _ _ _ h1)
    exact h2
  let F : Fr := ⟨w, w, Ab, S, fun _ => False, fn.ntmps, mkFv (fun _ => none) [0] a0⟩
  let p0 : Ow := ⟨fun _ => u, fun _ => S, fun _ => False⟩
  have hkk : gid = cid 9000 0 := by decide
  replace h := fun h1 h2 => h x y h1 h2 hpre
  unfold evFw at h
  generalize cid 9000 0 = kk at hkk h
  generalize hM0 : ([(kk, ⟨.pt W.o, x⟩)] : Mem) = M0
  have hg0 : go M0 kk = some ⟨.pt W.o, x⟩ := by rw [← hM0, go_cons, if_pos rfl]
  have hlive : ∀ k, Live M0 k → k = kk := fun k hk => by
    unfold Live at hk
    rw [← hM0, go_cons] at hk
    split at hk
    · rename_i e; exact e.symm
    · simp [go] at hk
  have himm : ∀ b, Ab b → Imm F p0 M0 w b := fun b hb => ⟨hAlt b hb, .inl hb, fun h => h, fun k hk hs => (hSlt b hs).2 hb⟩
  obtain ⟨m, e⟩ : ∃ m, W.ag = ap ((tailL (toL fn.params)).map (fun q => (B.τ q).agg)) (repL false m) := by
    unfold agL at hga
    cases hq : toL fn.params with
    | nil =>
      rw [hq] at hga
      simp only [List.map_nil, ap] at hga
      cases hm : fn.nfree with
      | zero => rw [hm] at hga; cases hga
      | succ m =>
        rw [hm] at hga
        simp only [repL, List.cons.injEq] at hga
        exact ⟨m, by simp only [tailL, List.map_nil, ap]; exact hga.2⟩
    | cons q qs =>
      rw [hq] at hga
      simp only [List.map_cons, ap, List.cons.injEq] at hga
      exact ⟨fn.nfree, hga.2⟩
  obtain ⟨l1, l2, l3, l4⟩ := argR_get (B := B) (β := p0.β) (M := M0) himm W.ag W.as y us hargs (tailL (toL fn.params)) m e
  have he := h hoks l3
  rw [hM0] at he
  have hsz : a0.tmps.size = fn.ntmps := by simp [a0]; omega
  have hget : ∀ t, t < (u :: us).length → a0.tmps.getD t undef = (u :: us).getD t undef := fun t ht => by
    simp only [a0]
    rw [Array.getD_eq_getD_getElem?, Array.getElem?_append_left (by simpa using ht)]
    simp [List.getD_eq_getElem?_getD]
  have hrel0 : Rel (Imm F p0 M0 w) w (.pt W.o) x S [u] := Rel.keep (fun b hb => ⟨himm b hb, rfl⟩) _ _ _ _ (fun _ _ => rfl) hr
  have hp0 : Hp F p0 M0 w := ⟨fun k ob hk => by
      have := hlive k (go_live hk)
      subst this
      rw [hg0] at hk; cases hk
      exact hrel0, fun k k' b hne hk hk' => absurd ((hlive k hk).trans (hlive k' hk').symm) hne,
    fun k b hk hs => ⟨(hSlt b hs).1, .inl ⟨by rw [hlive k hk, hkk]; exact Nat.le_refl _, hs⟩⟩, fun b hb => hb.elim, rfl, rfl, rfl, Nat.le_refl _, fun b _ _ => rfl⟩
  have hst : St F p0 (idxE 0 (.ad kk [.de] :: argV B (tailL (toL fn.params)) W.as y)) M0 a0 w := by
    refine ⟨rfl, hsz, fun t v ht => ?_, fun b hb => hb.elim, fun b hb => hb, fun t => ?_, hp0⟩
    · simp only [F, mkFv] at ht
      cases hm : memN t [0] with
      | true => rw [hm] at ht; simpa using ht
      | false => rw [hm] at ht; cases ht
    · rw [idxE_gt]
      simp only [Nat.zero_le, if_true, Nat.sub_zero]
      cases t with
      | zero =>
        rw [hget 0 (by simp)]
        simp only [List.getElem?_cons_zero, Option.getD_some, List.getD_cons_zero, RelS, RelC]
        refine ⟨u, rfl, ?_⟩
        simp only [Rel] at hrel0
        obtain ⟨bb, us1, ty', S1, r1, _⟩ := hrel0
        simp only [List.cons.injEq, and_true] at r1
        exact ⟨_, cellsOf w bb 0 W.o.size, bb, 0, hg0, by simp only [gok], by simp only [get]; exact ⟨_, rfl⟩, by simp only [heapy], by simp only [p0, r1, res], r1⟩
      | succ t =>
        simp only [List.getElem?_cons_succ]
        cases hx : (argV B (tailL (toL fn.params)) W.as y)[t]? with
        | none => simp only [Option.getD_none, RelS]
        | some v =>
          have ht := (List.getElem?_eq_some_iff.1 hx).1
          have hu : us[t]? = some us[t] := List.getElem?_eq_getElem (by omega)
          simp only [Option.getD_some]
          rw [hget (t + 1) (by simp; omega)]
          have : (u :: us).getD (t + 1) undef = us[t] := by simp [List.getD_eq_getElem?_getD, hu]
          rw [this]
          exact l4 t v _ hx hu
  refine calls_of_wp hf hb (Code.wp_mono (fun e a' w' he => ?_) (ev_ok hΦ hB hmix cut c F A _ _ _ hck (free_mk c hnw (free_none c)) he p0 _ w hst))
  have key : ∀ p env M, St F p env M a' w' → endWv B (toL fn.results) W (fun z r => z = W.new x y ∧ r = W.res x y) env M → (e = .normal ∨ e = .ret) → bodyPost P fn (fun e w' => ∃ rs R S', e = .returned (oneT rs) ∧ ExtS w w' S ∧ (∀ b, R b → w.heap.size ≤ b ∧ b < w'.heap.size) ∧ (∀ b, S' b → (S b ∨ w.heap.size ≤ b ∧ b < w'.heap.size) ∧ ¬ R b) ∧
      Rel (fun b => b < w'.heap.size ∧ (Ab b ∨ S b ∨ w.heap.size ≤ b) ∧ ¬ S' b ∧ ¬ R b) w' (.pt W.o) (W.new x y) S' [u] ∧
      ResR (fun b => b < w'.heap.size ∧ (Ab b ∨ S b ∨ w.heap.size ≤ b) ∧ ¬ S' b ∧ ¬ R b) w' W.rt (W.res x y) R rs) e a' w' := by
    intro p env M hs hr hee
    unfold endWv at hr
    split at hr
    · rename_i r e1 M1 hres
      split at hr
      · rename_i k π hk
        cases hde : isDe π with
        | false => rw [hde] at hr; exact hr.elim
        | true =>
        rw [hde] at hr
        simp only [cond_true] at hr
        have := isDe_eq hde
        subst this
        split at hr
        · rename_i ob hob
          split at hr
          · rename_i z hz
            obtain ⟨rfl, rfl⟩ := hr
            obtain ⟨rs, p', R, k1, t, k4, k5, k6, k7⟩ := resLM_ok (P := P) (a := a') hB (toL fn.results) W.rt p env M _ e1 M1 hs.hp hs.slots hres
            rw [toL_eq] at k1
            have hrun : (results fn a'.tmps).run P w' = .ok (oneT rs) w' := by
              rw [results_eq, Array.mapM_eq_mapM_toList]
              simp only [Sem.run_bind, Sem.run_map, k1, Result.andThen_ok, Sem.run_pure]
              match rs with
              | [] => rfl
              | [u] => rfl
              | u :: u' :: r => simp [oneT]
            have hu0 : a'.tmps.getD 0 undef = u := by
              have := hs.fix 0 (a0.tmps.getD 0 undef) (by simp [F, mkFv, memN])
              rw [this, hget 0 (by simp)]; rfl
            have hs0 := t.s _ _ (hs.slots 0)
            rw [hu0, hk] at hs0
            simp only [RelS, RelC] at hs0
            obtain ⟨_, e2, hadr⟩ := hs0
            simp only [List.cons.injEq, and_true] at e2
            subst e2
            obtain ⟨w1, w2⟩ := wkO_some hz
            have hrk := t.hp.objs k _ hob
            have hbox : u = p'.β k := by
              obtain ⟨o0, us0, b0, off0, q1, q2, q3, q4, q5, q6⟩ := hadr
              rw [hob] at q1; cases q1
              obtain ⟨oo, xx⟩ := ob
              cases oo with
              | pt o1 =>
                simp only [Rel] at hrk
                obtain ⟨bb, us1, ty', S1, r1, _⟩ := hrk
                simp only [List.cons.injEq, and_true] at r1
                rw [r1] at q5
                simp only [res, Option.some.injEq, Prod.mk.injEq] at q5
                rw [q6, r1, q5.2.1, q5.2.2]
              | fz t => cases t <;> simp [O.wk] at w1
              | p a b => simp [O.wk] at w1
              | sl e => simp [O.wk] at w1
            rw [← hbox] at hrk
            obtain ⟨S', s1, s2⟩ := wk_rel ob.o (.pt W.o) w1 ob.x _ (p'.σ k) [u] w2 hrk
            have hlk := go_live hob
            have hRl : ∀ b, R b → w.heap.size ≤ b ∧ b < w'.heap.size := fun b hb => ⟨(t.hp.lim b (k5 b hb)).2.1, (t.hp.lim b (k5 b hb)).1⟩
            have hSR : ∀ b, p'.σ k b → ¬ R b := fun b hb hR => (t.hp.lim b (k5 b hR)).2.2 k hlk hb
            have hIm : ∀ b, Imm F p' M1 w' b → (b < w'.heap.size ∧ (Ab b ∨ S b ∨ w.heap.size ≤ b) ∧ ¬ S' b ∧ ¬ R b) := fun b hb => ⟨hb.1, hb.2.1, fun h => hb.2.2.2 k hlk (s1 b h), fun h => hb.2.2.1 (k5 b h)⟩
            have hpost : ∃ rs' R S', Ending.returned (oneT rs) = .returned (oneT rs') ∧ ExtS w w' S ∧ (∀ b, R b → w.heap.size ≤ b ∧ b < w'.heap.size) ∧ (∀ b, S' b → (S b ∨ w.heap.size ≤ b ∧ b < w'.heap.size) ∧ ¬ R b) ∧
                Rel (fun b => b < w'.heap.size ∧ (Ab b ∨ S b ∨ w.heap.size ≤ b) ∧ ¬ S' b ∧ ¬ R b) w' (.pt W.o) (W.new x y) S' [u] ∧
                ResR (fun b => b < w'.heap.size ∧ (Ab b ∨ S b ∨ w.heap.size ≤ b) ∧ ¬ S' b ∧ ¬ R b) w' W.rt (W.res x y) R rs' := by
              refine ⟨rs, R, S', rfl, ⟨t.hp.os, t.hp.tape, t.hp.output, t.hp.size, fun b hb hn => t.hp.old b hb hn⟩, hRl, fun b hb => ⟨?_, hSR b (s1 b hb)⟩, s2 _ hIm (fun b hb hnb => ?_), ResR.keep hIm _ _ _ _ k7⟩
              · have := t.hp.own k b hlk (s1 b hb)
                rcases this.2 with ⟨_, h1⟩ | h1
                · exact .inl h1
                · exact .inr ⟨h1, this.1⟩
              · have := t.hp.own k b hlk hb
                refine ⟨this.1, ?_, hnb, hSR b hb⟩
                rcases this.2 with ⟨_, h1⟩ | h1
                · exact .inr (.inl h1)
                · exact .inr (.inr h1)
            rcases hee with rfl | rfl
            · exact ⟨hs.defers, _, hrun, hpost⟩
            · exact ⟨hs.defers, _, hrun, hpost⟩
          · exact hr.elim
        · exact hr.elim
      · exact hr.elim
    · exact hr.elim
  cases e with
  | normal => obtain ⟨p, env, M, h1, h2⟩ := he; exact key p env M h1 h2 (.inl rfl)
  | ret => obtain ⟨p, env, M, h1, h2⟩ := he; exact key p env M h1 h2 (.inr rfl)
  | exit id => obtain ⟨p, env, M, h1, h2⟩ := he; exact h2.elim
  | goto l => exact he.elim
  | panic ch => exact he.elim
  | outgrown => exact he.elim

end
end Go.Bm

/- Numbers written into data one after the other, and read back. No condition. -/
namespace Go.Bm

def mapK {α : Type} (f : α → Int → α × Int) : List α → Int → List α × Int
  | [], n => ([], n)
  | x :: r, n => ((f x n).1 :: (mapK f r (f x n).2).1, (mapK f r (f x n).2).2)
/-- within a slice: every integer is written -/
def mkR : (t : T) → t.den → Int → t.den × Int
  | .int _, _, n => (n, n + 1)
  | .p a b, x, n => (((mkR a x.1 n).1, (mkR b x.2 (mkR a x.1 n).2).1), (mkR b x.2 (mkR a x.1 n).2).2)
  | .sl e, l, n => mapK (mkR e) l n
  | .bool, x, n => (x, n)
  | .str, x, n => (x, n)
  | .u, x, n => (x, n)
  | .pt _, x, n => (x, n)
  | .fn _ _, x, n => (x, n)
  | .any, x, n => (x, n)
/-- outside: what lies in slices alone -/
def mtR : (t : T) → t.den → Int → t.den × Int
  | .int _, x, n => (x, n)
  | .p a b, x, n => (((mtR a x.1 n).1, (mtR b x.2 (mtR a x.1 n).2).1), (mtR b x.2 (mtR a x.1 n).2).2)
  | .sl e, l, n => mkR (.sl e) l n
  | .bool, x, n => (x, n)
  | .str, x, n => (x, n)
  | .u, x, n => (x, n)
  | .pt _, x, n => (x, n)
  | .fn _ _, x, n => (x, n)
  | .any, x, n => (x, n)

def hdL {α : Type} (f : α → Int → Int) : List α → Int → Int
  | [], n => n
  | x :: r, n => if f x n < 0 then -1 else hdL f r (f x n)
def hdR : (t : T) → t.den → Int → Int
  | .int _, x, n => if (x : Int) = n then n + 1 else -1
  | .p a b, x, n => if hdR a x.1 n < 0 then -1 else hdR b x.2 (hdR a x.1 n)
  | .sl e, l, n => hdL (hdR e) l n
  | .bool, _, n => n
  | .str, _, n => n
  | .u, _, n => n
  | .pt _, _, n => n
  | .fn _ _, _, n => n
  | .any, _, n => n
def htR : (t : T) → t.den → Int → Int
  | .int _, _, n => n
  | .p a b, x, n => if htR a x.1 n < 0 then -1 else htR b x.2 (htR a x.1 n)
  | .sl e, l, n => hdR (.sl e) l n
  | .bool, _, n => n
  | .str, _, n => n
  | .u, _, n => n
  | .pt _, _, n => n
  | .fn _ _, _, n => n
  | .any, _, n => n

/-- how many are written -/
def ckR : (t : T) → t.den → Nat
  | .int _, _ => 1
  | .p a b, x => ckR a x.1 + ckR b x.2
  | .sl e, l => (l.map (ckR e)).sum
  | .bool, _ => 0
  | .str, _ => 0
  | .u, _ => 0
  | .pt _, _ => 0
  | .fn _ _, _ => 0
  | .any, _ => 0
def ctR : (t : T) → t.den → Nat
  | .int _, _ => 0
  | .p a b, x => ctR a x.1 + ctR b x.2
  | .sl e, l => ckR (.sl e) l
  | .bool, _ => 0
  | .str, _ => 0
  | .u, _ => 0
  | .pt _, _ => 0
  | .fn _ _, _ => 0
  | .any, _ => 0

theorem mapK_len {α : Type} {f : α → Int → α × Int} : ∀ (l : List α) (n : Int), (mapK f l n).1.length = l.length
  | [], _ => rfl
  | x :: r, n => by simp only [mapK, List.length_cons]; rw [mapK_len r]
theorem mapK_app {α : Type} {f : α → Int → α × Int} (x : α) : ∀ (l : List α) (n : Int), mapK f (l ++ [x]) n = ((mapK f l n).1 ++ [(f x (mapK f l n).2).1], (f x (mapK f l n).2).2)
  | [], n => rfl
  | y :: r, n => by simp only [List.cons_append, mapK]; rw [mapK_app x r]
theorem mapK_num {α : Type} {f : α → Int → α × Int} {c : α → Nat} (h : ∀ x n, (f x n).2 = n + c x) : ∀ (l : List α) (n : Int), (mapK f l n).2 = n + (l.map c).sum
  | [], n => by simp [mapK]
  | x :: r, n => by simp only [mapK, List.map_cons, List.sum_cons]; rw [mapK_num h r, h]; omega
theorem mk_num : (t : T) → (x : t.den) → (n : Int) → (mkR t x n).2 = n + ckR t x
  | .int _, x, n => by simp [mkR, ckR]
  | .p a b, x, n => by simp only [mkR, ckR]; rw [mk_num b, mk_num a]; omega
  | .sl e, l, n => by simp only [mkR, ckR]; exact mapK_num (mk_num e) l n
  | .bool, x, n => by simp [mkR, ckR]
  | .str, x, n => by simp [mkR, ckR]
  | .u, x, n => by simp [mkR, ckR]
  | .pt _, x, n => by simp [mkR, ckR]
  | .fn _ _, x, n => by simp [mkR, ckR]
  | .any, x, n => by simp [mkR, ckR]
theorem mt_num : (t : T) → (x : t.den) → (n : Int) → (mtR t x n).2 = n + ctR t x
  | .int _, x, n => by simp [mtR, ctR]
  | .p a b, x, n => by simp only [mtR, ctR]; rw [mt_num b, mt_num a]; omega
  | .sl e, l, n => by simp only [mtR, ctR]; exact mk_num (.sl e) l n
  | .bool, x, n => by simp [mtR, ctR]
  | .str, x, n => by simp [mtR, ctR]
  | .u, x, n => by simp [mtR, ctR]
  | .pt _, x, n => by simp [mtR, ctR]
  | .fn _ _, x, n => by simp [mtR, ctR]
  | .any, x, n => by simp [mtR, ctR]

theorem hdL_mapK {α : Type} {f : α → Int → α × Int} {g : α → Int → Int} (h : ∀ x n, 0 ≤ n → g (f x n).1 n = (f x n).2 ∧ n ≤ (f x n).2) : ∀ (l : List α) (n : Int), 0 ≤ n → hdL g (mapK f l n).1 n = (mapK f l n).2 ∧ n ≤ (mapK f l n).2
  | [], n, _ => by simp [mapK, hdL]
  | x :: r, n, hn => by
    obtain ⟨h1, h2⟩ := h x n hn
    obtain ⟨h3, h4⟩ := hdL_mapK h r (f x n).2 (by omega)
    simp only [mapK, hdL, h1]
    rw [if_neg (by omega)]
    exact ⟨h3, by omega⟩
theorem hd_mk : (t : T) → (x : t.den) → (n : Int) → 0 ≤ n → hdR t (mkR t x n).1 n = (mkR t x n).2 ∧ n ≤ (mkR t x n).2
  | .int _, x, n, _ => by simp [mkR, hdR]; omega
  | .p a b, x, n, hn => by
    obtain ⟨h1, h2⟩ := hd_mk a x.1 n hn
    obtain ⟨h3, h4⟩ := hd_mk b x.2 (mkR a x.1 n).2 (by omega)
    simp only [mkR, hdR, h1]
    rw [if_neg (by omega)]
    exact ⟨h3, by omega⟩
  | .sl e, l, n, hn => by simp only [mkR, hdR]; exact hdL_mapK (hd_mk e) l n hn
  | .bool, x, n, _ => by simp [mkR, hdR]
  | .str, x, n, _ => by simp [mkR, hdR]
  | .u, x, n, _ => by simp [mkR, hdR]
  | .pt _, x, n, _ => by simp [mkR, hdR]
  | .fn _ _, x, n, _ => by simp [mkR, hdR]
  | .any, x, n, _ => by simp [mkR, hdR]
theorem ht_mt : (t : T) → (x : t.den) → (n : Int) → 0 ≤ n → htR t (mtR t x n).1 n = (mtR t x n).2 ∧ n ≤ (mtR t x n).2
  | .int _, x, n, _ => by simp [mtR, htR]
  | .p a b, x, n, hn => by
    obtain ⟨h1, h2⟩ := ht_mt a x.1 n hn
    obtain ⟨h3, h4⟩ := ht_mt b x.2 (mtR a x.1 n).2 (by omega)
    simp only [mtR, htR, h1]
    rw [if_neg (by omega)]
    exact ⟨h3, by omega⟩
  | .sl e, l, n, hn => by simp only [mtR, htR]; exact hd_mk (.sl e) l n hn
  | .bool, x, n, _ => by simp [mtR, htR]
  | .str, x, n, _ => by simp [mtR, htR]
  | .u, x, n, _ => by simp [mtR, htR]
  | .pt _, x, n, _ => by simp [mtR, htR]
  | .fn _ _, x, n, _ => by simp [mtR, htR]
  | .any, x, n, _ => by simp [mtR, htR]
theorem mt_sl {e : T} (l : List e.den) (n : Int) : mtR (.sl e) l n = mkR (.sl e) l n := rfl
theorem ht_sl {e : T} (l : List e.den) (n : Int) : htR (.sl e) l n = hdR (.sl e) l n := rfl
theorem ct_sl {e : T} (l : List e.den) : ctR (.sl e) l = ckR (.sl e) l := rfl

theorem hdL_val {α : Type} {g : α → Int → Int} {c : α → Nat} (h : ∀ x n, 0 ≤ n → g x n = -1 ∨ g x n = n + c x) : ∀ (l : List α) (n : Int), 0 ≤ n → hdL g l n = -1 ∨ hdL g l n = n + (l.map c).sum
  | [], n, _ => by simp [hdL]
  | x :: r, n, hn => by
    simp only [hdL, List.map_cons, List.sum_cons]
    rcases h x n hn with e | e
    · rw [e]; simp
    · rw [e, if_neg (by omega)]
      rcases hdL_val h r (n + c x) (by omega) with e' | e' <;> omega
theorem hd_val : (t : T) → (x : t.den) → (n : Int) → 0 ≤ n → hdR t x n = -1 ∨ hdR t x n = n + ckR t x
  | .int _, x, n, _ => by simp only [hdR, ckR]; split <;> simp
  | .p a b, x, n, hn => by
    simp only [hdR, ckR]
    rcases hd_val a x.1 n hn with e | e
    · rw [e]; simp
    · rw [e, if_neg (by omega)]
      rcases hd_val b x.2 (n + ckR a x.1) (by omega) with e' | e' <;> omega
  | .sl e, l, n, hn => by simp only [hdR, ckR]; exact hdL_val (hd_val e) l n hn
  | .bool, x, n, _ => by simp [hdR, ckR]
  | .str, x, n, _ => by simp [hdR, ckR]
  | .u, x, n, _ => by simp [hdR, ckR]
  | .pt _, x, n, _ => by simp [hdR, ckR]
  | .fn _ _, x, n, _ => by simp [hdR, ckR]
  | .any, x, n, _ => by simp [hdR, ckR]
theorem ht_val : (t : T) → (x : t.den) → (n : Int) → 0 ≤ n → htR t x n = -1 ∨ htR t x n = n + ctR t x
  | .int _, x, n, _ => by simp [htR, ctR]
  | .p a b, x, n, hn => by
    simp only [htR, ctR]
    rcases ht_val a x.1 n hn with e | e
    · rw [e]; simp
    · rw [e, if_neg (by omega)]
      rcases ht_val b x.2 (n + ctR a x.1) (by omega) with e' | e' <;> omega
  | .sl e, l, n, hn => by simp only [htR, ctR]; exact hd_val (.sl e) l n hn
  | .bool, x, n, _ => by simp [htR, ctR]
  | .str, x, n, _ => by simp [htR, ctR]
  | .u, x, n, _ => by simp [htR, ctR]
  | .pt _, x, n, _ => by simp [htR, ctR]
  | .fn _ _, x, n, _ => by simp [htR, ctR]
  | .any, x, n, _ => by simp [htR, ctR]

theorem ck_mapK {α : Type} {f : α → Int → α × Int} {c : α → Nat} (h : ∀ x n, c (f x n).1 = c x) : ∀ (l : List α) (n : Int), ((mapK f l n).1.map c).sum = (l.map c).sum
  | [], n => rfl
  | x :: r, n => by simp only [mapK, List.map_cons, List.sum_cons]; rw [ck_mapK h r, h]
theorem ck_mk : (t : T) → (x : t.den) → (n : Int) → ckR t (mkR t x n).1 = ckR t x
  | .int _, x, n => rfl
  | .p a b, x, n => by simp only [mkR, ckR]; rw [ck_mk a, ck_mk b]
  | .sl e, l, n => by simp only [mkR, ckR]; exact ck_mapK (ck_mk e) l n
  | .bool, x, n => rfl
  | .str, x, n => rfl
  | .u, x, n => rfl
  | .pt _, x, n => rfl
  | .fn _ _, x, n => rfl
  | .any, x, n => rfl
theorem ct_mt : (t : T) → (x : t.den) → (n : Int) → ctR t (mtR t x n).1 = ctR t x
  | .int _, x, n => rfl
  | .p a b, x, n => by simp only [mtR, ctR]; rw [ct_mt a, ct_mt b]
  | .sl e, l, n => by simp only [mtR, ctR]; exact ck_mk (.sl e) l n
  | .bool, x, n => rfl
  | .str, x, n => rfl
  | .u, x, n => rfl
  | .pt _, x, n => rfl
  | .fn _ _, x, n => rfl
  | .any, x, n => rfl
theorem hd_mk1 {t : T} {x : t.den} {n : Nat} : hdR t (mkR t x n).1 n = n + ckR t x := by rw [(hd_mk t x n (by omega)).1, mk_num]
theorem ht_mt1 {t : T} {x : t.den} {n : Nat} : htR t (mtR t x n).1 n = n + ctR t x := by rw [(ht_mt t x n (by omega)).1, mt_num]

theorem szR_neg2 {n m : Nat} {l : Int} : szR m (szR n l) < 0 ↔ l < (n + m : Nat) := by unfold szR; split <;> split <;> omega
theorem szR_neg3 {n m k : Nat} {l : Int} : szR k (szR m (szR n l)) < 0 ↔ l < (n + m + k : Nat) := by unfold szR; split <;> split <;> split <;> omega
theorem szR_low (n : Nat) {l : Int} (h : -1 ≤ l) : -1 ≤ szR n l := by unfold szR; split <;> omega

/-! how many there can be -/
/-- integers outside slices -/
def dirN : T → Nat
  | .int _ => 1
  | .p a b => dirN a + dirN b
  | _ => 0
/-- elements hold at most one integer of their own -/
def slimT : T → Bool
  | .sl e => slimT e && decide (dirN e ≤ 1)
  | .p a b => slimT a && slimT b
  | _ => true
theorem ck_le : (t : T) → slimT t = true → (x : t.den) → ckR t x ≤ dirN t + wR t x
  | .int _, _, x => by simp [ckR, dirN]
  | .p a b, h, x => by
    simp only [slimT, Bool.and_eq_true] at h
    have h1 := ck_le a h.1 x.1
    have h2 := ck_le b h.2 x.2
    simp only [ckR, dirN, wR]; omega
  | .sl e, h, l => by
    simp only [slimT, Bool.and_eq_true, decide_eq_true_eq] at h
    simp only [ckR, dirN, wR]
    have : ∀ l : List e.den, (l.map (ckR e)).sum ≤ l.length + (l.map (wR e)).sum := by
      intro l
      induction l with
      | nil => simp
      | cons y l ih =>
        simp only [List.map_cons, List.sum_cons, List.length_cons]
        have := ck_le e h.1 y
        omega
    have := this l
    omega
  | .bool, _, x => by simp [ckR]
  | .str, _, x => by simp [ckR]
  | .u, _, x => by simp [ckR]
  | .pt _, _, x => by simp [ckR]
  | .fn _ _, _, x => by simp [ckR]
  | .any, _, x => by simp [ckR]
theorem ct_le : (t : T) → slimT t = true → (x : t.den) → ctR t x ≤ wR t x
  | .int _, _, x => by simp [ctR]
  | .p a b, h, x => by
    simp only [slimT, Bool.and_eq_true] at h
    have h1 := ct_le a h.1 x.1
    have h2 := ct_le b h.2 x.2
    simp only [ctR, wR]; omega
  | .sl e, h, l => by have := ck_le (.sl e) h l; simp only [ctR, dirN] at this ⊢; omega
  | .bool, _, x => by simp [ctR]
  | .str, _, x => by simp [ctR]
  | .u, _, x => by simp [ctR]
  | .pt _, _, x => by simp [ctR]
  | .fn _ _, _, x => by simp [ctR]
  | .any, _, x => by simp [ctR]
theorem ck_ints {k : IntKind} (l : List Int) : ckR (.sl (.int k)) l = l.length := by
  simp only [ckR]
  induction l with
  | nil => rfl
  | cons x l ih => simp only [List.map_cons, List.sum_cons, List.length_cons, ih]; omega

theorem ck_rows {k : IntKind} {B : Nat} : ∀ (l : List (List Int)), (∀ r ∈ l, r.length ≤ B) → ckR (.sl (.sl (.int k))) l ≤ l.length * B := by
  intro l
  induction l with
  | nil => intro _; simp [ckR]
  | cons r l ih =>
    intro h
    have h1 := h r (by simp)
    have h2 := ih fun x hx => h x (by simp [hx])
    have h3 := ck_ints (k := k) r
    simp only [ckR] at h2 h3 ⊢
    simp only [List.map_cons, List.sum_cons, List.length_cons, Nat.add_mul, h3]
    omega

/-! a loop that writes -/
theorem set_mid {α : Type} (A l : List α) (y : α) {i : Nat} (h : A.length = i) (hi : i < l.length) : (A ++ l.drop i).set i y = (A ++ [y]) ++ l.drop (i + 1) := by
  rw [List.set_append, if_neg (by omega), h, Nat.sub_self, List.drop_eq_getElem_cons hi, List.set_cons_zero, List.append_assoc, List.cons_append, List.nil_append]
theorem get_mid {α : Type} (A l : List α) (d : α) {i : Nat} (h : A.length = i) : (A ++ l.drop i).getD i d = l.getD i d := by
  rw [List.getD_eq_getElem?_getD, List.getD_eq_getElem?_getD, List.getElem?_append_right (by omega), h, Nat.sub_self, List.getElem?_drop, Nat.add_zero]

theorem ck_c {e : T} (l : List e.den) (d : e.den) {i : Int} (h0 : 0 ≤ i) (h1 : i < l.length) : ((l.drop i.toNat).map (ckR e)).sum = ckR e (l.getD i.toNat d) + ((l.drop (i + 1).toNat).map (ckR e)).sum := by
  rw [drop_c l d h0 h1]; simp
theorem take_sum {α : Type} {c : α → Nat} (l : List α) (d : α) {i : Int} (h0 : 0 ≤ i) (h1 : i < l.length) : ((l.take i.toNat).map c).sum + c (l.getD i.toNat d) ≤ (l.map c).sum := by
  have h := List.take_append_drop i.toNat l
  have e : (l.map c).sum = ((l.take i.toNat).map c).sum + ((l.drop i.toNat).map c).sum := by
    rw [← List.sum_append, ← List.map_append, h]
  rw [e, drop_c l d h0 h1]
  simp only [List.map_cons, List.sum_cons]; omega

/-- A loop that writes numbers into a list. -/
theorem mark_loop {e : T} (d : e.den) (a : List e.den) (k0 : Int) {body : (Unit × (Int × (Int × Unit))) × (List e.den × Unit) → ((Unit × (Int × (Int × Unit))) × (List e.den × Unit) → Prop) → Prop}
    (hk : 0 ≤ k0) (hb : k0 + ckR (.sl e) a ≤ 4611686018427387904)
    (hs : ∀ (k i : Int) (l : List e.den) next, 0 ≤ i → i < l.length → l.length = a.length → l.getD i.toNat d = a.getD i.toNat d → 0 ≤ k → k + ckR e (a.getD i.toNat d) ≤ 4611686018427387904 →
      next (((), ((mkR e (a.getD i.toNat d) k).2, (i + 1, ()))), (l.set i.toNat (mkR e (a.getD i.toNat d) k).1, ())) → body (((), (k, (i, ()))), (l, ())) next)
    (he : ∀ (i : Int) (l : List e.den) next, (l.length : Int) ≤ i → l = (mkR (.sl e) a k0).1 → body (((), ((mkR (.sl e) a k0).2, (i, ()))), (l, ())) next) : loopW body (((), (k0, (0, ()))), (a, ())) := by
  refine loop_of (fun (s : (Unit × (Int × (Int × Unit))) × (List e.den × Unit)) => 0 ≤ s.1.2.2.1 ∧ s.1.2.2.1 ≤ a.length ∧ s.2.1 = (mapK (mkR e) (a.take s.1.2.2.1.toNat) k0).1 ++ a.drop s.1.2.2.1.toNat ∧ s.1.2.1 = (mapK (mkR e) (a.take s.1.2.2.1.toNat) k0).2) (fun s => ((a.length : Int) - s.1.2.2.1).toNat) ?_ ⟨Int.le_refl _, by simp, by simp [mapK], by simp [mapK]⟩
  rintro ⟨⟨_, k, i, _⟩, l, _⟩ next ⟨h0, h1, h2, h3⟩ hn
  dsimp only at h0 h1 h2 h3 hn
  have hl : (mapK (mkR e) (a.take i.toNat) k0).1.length = i.toNat := by rw [mapK_len, List.length_take]; omega
  have hll : l.length = a.length := by rw [h2, List.length_append, hl, List.length_drop]; omega
  by_cases hc : i < a.length
  · have hg : l.getD i.toNat d = a.getD i.toNat d := by rw [h2]; exact get_mid _ a d hl
    have hkn : k = k0 + ((a.take i.toNat).map (ckR e)).sum := by rw [h3]; exact mapK_num (mk_num e) _ _
    have hts := take_sum (c := ckR e) a d h0 hc
    simp only [ckR] at hb
    have ht : a.take (i + 1).toNat = a.take i.toNat ++ [a.getD i.toNat d] := take_c a d h0 hc
    refine hs k i l next h0 (by omega) hll hg (by omega) (by omega) (hn _ ⟨by dsimp only; omega, by dsimp only; omega, ?_, ?_⟩ (by dsimp only; omega))
    · dsimp only
      rw [ht, mapK_app, h2, set_mid _ a _ hl (by omega), ← h3, show (i + 1).toNat = i.toNat + 1 from by omega]
    · dsimp only
      rw [ht, mapK_app, ← h3]
  · have e1 : a.take i.toNat = a := take_n a (by omega)
    have e2 : a.drop i.toNat = [] := drop_n a (by omega)
    rw [e1] at h2 h3
    rw [e2, List.append_nil] at h2
    rw [h3]
    exact he i l next (by omega) h2

theorem hd_int {k : IntKind} (x n : Int) : hdR (.int k) x n = if x = n then n + 1 else -1 := rfl
/-- A loop that reads numbers back. -/
theorem held_loop {e : T} (d : e.den) (a : List e.den) (k0 : Int) {body : (Int × (Int × Unit)) × Unit → ((Int × (Int × Unit)) × Unit → Prop) → Prop}
    (hk : 0 ≤ k0) (hb : k0 + ckR (.sl e) a ≤ 4611686018427387904)
    (hs : ∀ (k i : Int) next, 0 ≤ i → i < a.length → 0 ≤ k → k + ckR e (a.getD i.toNat d) ≤ 4611686018427387904 → (hdR e (a.getD i.toNat d) k < 0 → hdR (.sl e) a k0 = -1) →
      (¬ hdR e (a.getD i.toNat d) k < 0 → next ((hdR e (a.getD i.toNat d) k, (i + 1, ())), ())) → body ((k, (i, ())), ()) next)
    (he : ∀ (i : Int) next, (a.length : Int) ≤ i → body ((hdR (.sl e) a k0, (i, ())), ()) next) : loopW body ((k0, (0, ())), ()) := by
  refine loop_of (fun (s : (Int × (Int × Unit)) × Unit) => 0 ≤ s.1.2.1 ∧ s.1.2.1 ≤ a.length ∧ hdR (.sl e) a k0 = hdL (hdR e) (a.drop s.1.2.1.toNat) s.1.1 ∧ 0 ≤ s.1.1 ∧ s.1.1 + ((a.drop s.1.2.1.toNat).map (ckR e)).sum ≤ 4611686018427387904) (fun s => ((a.length : Int) - s.1.2.1).toNat) ?_ ⟨Int.le_refl _, by simp, by simp [hdR], hk, by simpa [ckR] using hb⟩
  rintro ⟨⟨k, i, _⟩, _⟩ next ⟨h0, h1, h2, h3, h4⟩ hn
  dsimp only at h0 h1 h2 h3 h4 hn
  by_cases hc : i < a.length
  · rw [drop_c a d h0 hc] at h2 h4
    simp only [List.map_cons, List.sum_cons] at h4
    refine hs k i next h0 hc h3 (by omega) (fun hx => by rw [h2]; simp only [hdL]; rw [if_pos hx]) (fun hx => ?_)
    have hv := hd_val e (a.getD i.toNat d) k h3
    have hv2 : hdR e (a.getD i.toNat d) k = k + ckR e (a.getD i.toNat d) := by omega
    exact hn _ ⟨by dsimp only; omega, by dsimp only; omega, by dsimp only; rw [h2]; simp only [hdL]; rw [if_neg hx], by dsimp only; omega, by dsimp only; omega⟩ (by dsimp only; omega)
  · have e2 : a.drop i.toNat = [] := drop_n a (by omega)
    rw [e2] at h2
    simp only [hdL] at h2
    rw [← h2]
    exact he i next (by omega)
end Go.Bm

/- The data of the types of the program. No condition. -/
namespace Go.Bm
abbrev CategoryT : T := (.p (.int .i64) (.p (.sl (.int .i64)) (.p (.sl (.int .i64)) (.p (.sl (.int .i64)) (.sl (.sl (.int .i64)))))))
abbrev CategoryD : Type := Int × ((List Int) × ((List Int) × ((List Int) × (List (List Int)))))
abbrev CategoryO : O := (.p (.fz (.int .i64)) (.p (.sl (.fz (.int .i64))) (.p (.sl (.fz (.int .i64))) (.p (.sl (.fz (.int .i64))) (.sl (.sl (.fz (.int .i64))))))))
abbrev FunctorT : T := (.p CategoryT (.p CategoryT (.p (.sl (.int .i64)) (.sl (.int .i64)))))
abbrev FunctorD : Type := CategoryD × (CategoryD × ((List Int) × (List Int)))
abbrev FunctorO : O := (.p CategoryO (.p CategoryO (.p (.sl (.fz (.int .i64))) (.sl (.fz (.int .i64))))))
abbrev SetFunctorT : T := (.p CategoryT (.p (.sl (.int .i64)) (.sl (.sl (.int .i64)))))
abbrev SetFunctorD : Type := CategoryD × ((List Int) × (List (List Int)))
abbrev SetFunctorO : O := (.p CategoryO (.p (.sl (.fz (.int .i64))) (.sl (.sl (.fz (.int .i64))))))
abbrev SetMapT : T := (.p SetFunctorT (.p SetFunctorT (.sl (.sl (.int .i64)))))
abbrev SetMapD : Type := SetFunctorD × (SetFunctorD × (List (List Int)))
abbrev SetMapO : O := (.p SetFunctorO (.p SetFunctorO (.sl (.sl (.fz (.int .i64))))))
abbrev leftAtT : T := (.p (.sl (.sl (.int .i64))) (.p .any (.sl (.int .i64))))
abbrev leftAtO : O := (.p (.sl (.sl (.fz (.int .i64)))) (.p (.fz .any) (.sl (.fz (.int .i64)))))
abbrev leftExtensionT : T := (.p (.pt FunctorT) (.p SetFunctorT (.sl (.pt leftAtT))))
abbrev leftExtensionO : O := (.p (.fz (.pt FunctorT)) (.p SetFunctorO (.sl (.fz (.pt leftAtT)))))
abbrev solverT : T := (.p (.sl (.int .i64)) (.p .any (.p (.sl (.int .i64)) .any)))
abbrev solverO : O := (.p (.sl (.fz (.int .i64))) (.p (.fz .any) (.p (.sl (.fz (.int .i64))) (.fz .any))))
abbrev ruleT : T := (.p (.int .i64) (.p (.int .i64) (.sl (.int .i64))))
abbrev ruleD : Type := Int × (Int × (List Int))
abbrev ruleO : O := (.p (.fz (.int .i64)) (.p (.fz (.int .i64)) (.sl (.fz (.int .i64)))))
abbrev rightAtT : T := (.p (.sl (.sl (.int .i64))) (.p .any (.p (.sl (.sl (.int .i64))) .any)))
abbrev rightAtO : O := (.p (.sl (.sl (.fz (.int .i64)))) (.p (.fz .any) (.p (.sl (.sl (.fz (.int .i64)))) (.fz .any))))
abbrev rightExtensionT : T := (.p (.pt FunctorT) (.p SetFunctorT (.sl (.pt rightAtT))))
abbrev rightExtensionO : O := (.p (.fz (.pt FunctorT)) (.p SetFunctorO (.sl (.fz (.pt rightAtT)))))
abbrev powerT : T := (.p (.pt SetFunctorT) (.p (.pt SetFunctorT) (.p SetFunctorT (.sl (.pt rightAtT)))))
abbrev powerO : O := (.p (.fz (.pt SetFunctorT)) (.p (.fz (.pt SetFunctorT)) (.p SetFunctorO (.sl (.fz (.pt rightAtT))))))
abbrev PathT : T := (.p (.int .i64) (.sl (.int .i64)))
abbrev PathD : Type := Int × (List Int)
abbrev PathO : O := (.p (.fz (.int .i64)) (.sl (.fz (.int .i64))))
abbrev SchemaT : T := (.p (.int .i64) (.p (.sl (.int .i64)) (.p (.sl (.int .i64)) (.p (.sl PathT) (.sl PathT)))))
abbrev SchemaD : Type := Int × ((List Int) × ((List Int) × ((List PathD) × (List PathD))))
abbrev SchemaO : O := (.p (.fz (.int .i64)) (.p (.sl (.fz (.int .i64))) (.p (.sl (.fz (.int .i64))) (.p (.sl PathO) (.sl PathO)))))
abbrev notClosedT : T := .str
abbrev notClosedD : Type := ByteArray
abbrev notClosedO : O := (.fz notClosedT)
abbrev pathClassesT : T := (.p .any (.p (.sl (.int .i64)) (.sl PathT)))
abbrev pathClassesO : O := (.p (.fz .any) (.p (.sl (.fz (.int .i64))) (.sl PathO)))
abbrev presentedT : T := (.p (.pt SchemaT) (.p CategoryT (.p (.sl (.int .i64)) (.sl PathT))))
abbrev presentedO : O := (.p (.fz (.pt SchemaT)) (.p CategoryO (.p (.sl (.fz (.int .i64))) (.sl PathO))))
abbrev consoleT : T := .any
abbrev consoleO : O := (.fz consoleT)
abbrev orderT : T := (.p .str (.p (.sl .str) (.p (.int .i64) .str)))
abbrev orderD : Type := ByteArray × ((List ByteArray) × (Int × ByteArray))
abbrev orderO : O := (.p (.fz .str) (.p (.sl (.fz .str)) (.p (.fz (.int .i64)) (.fz .str))))
abbrev formT : T := (.p (.int .i64) (.p .bool (.p .bool (.p .bool .any))))
abbrev formO : O := (.fz formT)
abbrev BoundT : T := (.p .str CategoryT)
abbrev BoundD : Type := ByteArray × CategoryD
abbrev BoundO : O := (.p (.fz .str) CategoryO)
abbrev TopologyT : T := (.p CategoryT (.sl (.sl (.sl (.int .i64)))))
abbrev TopologyD : Type := CategoryD × (List (List (List Int)))
abbrev TopologyO : O := (.p CategoryO (.sl (.sl (.sl (.fz (.int .i64))))))
abbrev classifierT : T := (.p SetFunctorT (.sl (.sl (.sl (.int .i64)))))
abbrev classifierD : Type := SetFunctorD × (List (List (List Int)))
abbrev classifierO : O := (.p SetFunctorO (.sl (.sl (.sl (.fz (.int .i64))))))
abbrev PartT : T := (.sl (.sl (.int .i64)))
abbrev PartD : Type := List (List Int)
abbrev PartO : O := (.sl (.sl (.fz (.int .i64))))
abbrev commaT : T := (.p (.pt FunctorT) (.p (.pt FunctorT) (.p (.sl (.sl (.int .i64))) (.sl (.sl (.int .i64))))))
abbrev commaO : O := (.p (.fz (.pt FunctorT)) (.p (.fz (.pt FunctorT)) (.p (.sl (.sl (.fz (.int .i64)))) (.sl (.sl (.fz (.int .i64)))))))
abbrev AdjunctionT : T := (.p FunctorT (.p FunctorT (.p (.sl (.int .i64)) (.sl (.int .i64)))))
abbrev AdjunctionD : Type := FunctorD × (FunctorD × ((List Int) × (List Int)))
abbrev AdjunctionO : O := (.p FunctorO (.p FunctorO (.p (.sl (.fz (.int .i64))) (.sl (.fz (.int .i64))))))
abbrev endsT : T := (.p (.int .i64) (.int .i64))
abbrev endsD : Type := Int × Int
abbrev endsO : O := (.fz endsT)
abbrev ProfunctorT : T := (.p CategoryT (.p CategoryT (.p (.sl (.sl (.int .i64))) (.p (.sl (.sl (.sl (.int .i64)))) (.sl (.sl (.sl (.int .i64))))))))
abbrev ProfunctorD : Type := CategoryD × (CategoryD × ((List (List Int)) × ((List (List (List Int))) × (List (List (List Int))))))
abbrev ProfunctorO : O := (.p CategoryO (.p CategoryO (.p (.sl (.sl (.fz (.int .i64)))) (.p (.sl (.sl (.sl (.fz (.int .i64))))) (.sl (.sl (.sl (.fz (.int .i64)))))))))
abbrev tripleT : T := (.p (.int .i64) (.p (.int .i64) (.int .i64)))
abbrev tripleD : Type := Int × (Int × Int)
abbrev tripleO : O := (.fz tripleT)
abbrev compositeT : T := (.p (.pt ProfunctorT) (.p (.pt ProfunctorT) (.p ProfunctorT (.p (.sl (.sl (.sl tripleT))) (.sl (.sl (.sl (.int .i64))))))))
abbrev compositeO : O := (.p (.fz (.pt ProfunctorT)) (.p (.fz (.pt ProfunctorT)) (.p ProfunctorO (.p (.sl (.sl (.sl tripleO))) (.sl (.sl (.sl (.fz (.int .i64)))))))))
abbrev QueryT : T := (.p (.sl (.int .i64)) (.p (.sl endsT) (.p (.sl endsT) (.sl (.int .i64)))))
abbrev QueryD : Type := (List Int) × ((List endsD) × ((List endsD) × (List Int)))
abbrev QueryO : O := (.p (.sl (.fz (.int .i64))) (.p (.sl endsO) (.p (.sl endsO) (.sl (.fz (.int .i64))))))
abbrev canonicalT : T := (.p (.pt QueryT) (.p SetFunctorT .any))
abbrev canonicalO : O := (.p (.fz (.pt QueryT)) (.p SetFunctorO (.fz .any)))
abbrev conesT : T := (.pt FunctorT)
abbrev conesO : O := (.fz conesT)
abbrev coconesT : T := (.pt FunctorT)
abbrev coconesO : O := (.fz coconesT)
abbrev spansT : T := (.p (.pt CategoryT) (.p (.int .i64) (.p (.int .i64) (.p .any .bool))))
abbrev spansO : O := (.fz spansT)
abbrev movedT : T := (.p FunctorT (.p FunctorT (.p (.pt FunctorT) (.p (.sl PathT) (.sl PathT)))))
abbrev movedO : O := (.p FunctorO (.p FunctorO (.p (.fz (.pt FunctorT)) (.p (.sl PathO) (.sl PathO)))))
abbrev routeT : T := (.p endsT (.sl (.int .i64)))
abbrev routeD : Type := endsD × (List Int)
abbrev routeO : O := (.p endsO (.sl (.fz (.int .i64))))
abbrev functorCategoryT : T := (.p CategoryT (.p (.sl FunctorT) (.p (.sl (.sl (.int .i64))) .any)))
abbrev functorCategoryO : O := (.p CategoryO (.p (.sl FunctorO) (.p (.sl (.sl (.fz (.int .i64)))) (.fz .any))))
abbrev stepT : T := (.p (.pt SetFunctorT) (.p SetFunctorT (.p (.sl (.sl (.int .i64))) (.p (.sl (.sl (.sl (.int .i64)))) (.sl .any)))))
abbrev stepO : O := (.p (.fz (.pt SetFunctorT)) (.p SetFunctorO (.p (.sl (.sl (.fz (.int .i64)))) (.p (.sl (.sl (.sl (.fz (.int .i64))))) (.sl (.fz .any))))))
abbrev sheafT : T := (.p (.pt stepT) (.pt stepT))
abbrev sheafO : O := (.fz sheafT)
abbrev denominatorsT : T := (.p (.pt CategoryT) (.p (.sl (.int .i64)) (.sl .bool)))
abbrev denominatorsO : O := (.p (.fz (.pt CategoryT)) (.p (.sl (.fz (.int .i64))) (.sl (.fz .bool))))
abbrev localizationT : T := (.p (.pt denominatorsT) (.p CategoryT (.p .any (.p .any (.sl tripleT)))))
abbrev localizationO : O := (.p (.fz (.pt denominatorsT)) (.p CategoryO (.p (.fz .any) (.p (.fz .any) (.sl tripleO)))))
abbrev equivalenceT : T := (.pt FunctorT)
abbrev equivalenceO : O := (.fz equivalenceT)
abbrev completionT : T := (.p CategoryT (.p (.sl (.int .i64)) (.sl (.p (.int .i64) (.p (.int .i64) (.int .i64))))))
abbrev completionD : Type := CategoryD × ((List Int) × (List (Int × (Int × Int))))
abbrev completionO : O := (.p CategoryO (.p (.sl (.fz (.int .i64))) (.sl (.p (.fz (.int .i64)) (.p (.fz (.int .i64)) (.fz (.int .i64)))))))
abbrev MonoidalT : T := (.p CategoryT (.p (.int .i64) (.p (.sl (.sl (.int .i64))) (.sl (.sl (.int .i64))))))
abbrev MonoidalD : Type := CategoryD × (Int × ((List (List Int)) × (List (List Int))))
abbrev MonoidalO : O := (.p CategoryO (.p (.fz (.int .i64)) (.p (.sl (.sl (.fz (.int .i64)))) (.sl (.sl (.fz (.int .i64)))))))
abbrev diagramReaderT : T := (.p .str (.p (.int .i64) (.int .i64)))
abbrev diagramReaderD : Type := ByteArray × (Int × Int)
abbrev diagramReaderO : O := (.fz diagramReaderT)
abbrev SchemaMapT : T := (.p SchemaT (.p SchemaT (.p (.sl (.int .i64)) (.sl PathT))))
abbrev SchemaMapD : Type := SchemaD × (SchemaD × ((List Int) × (List PathD)))
abbrev SchemaMapO : O := (.p SchemaO (.p SchemaO (.p (.sl (.fz (.int .i64))) (.sl PathO))))
abbrev migrationT : T := (.p (.pt SchemaMapT) (.p (.pt presentedT) (.pt presentedT)))
abbrev migrationO : O := (.fz migrationT)
abbrev InstanceT : T := (.p SchemaT (.p (.sl (.int .i64)) (.p (.sl (.sl (.int .i64))) (.sl (.sl .str)))))
abbrev InstanceD : Type := SchemaD × ((List Int) × ((List (List Int)) × (List (List ByteArray))))
abbrev InstanceO : O := (.p SchemaO (.p (.sl (.fz (.int .i64))) (.p (.sl (.sl (.fz (.int .i64)))) (.sl (.sl (.fz .str))))))
abbrev writtenT : T := (.p .str (.sl .str))
abbrev writtenD : Type := ByteArray × (List ByteArray)
abbrev writtenO : O := (.p (.fz .str) (.sl (.fz .str)))
abbrev placedT : T := (.p (.pt InstanceT) (.int .i64))
abbrev placedO : O := (.fz placedT)
abbrev dataT : T := (.p (.sl (.int .i64)) (.sl (.sl (.int .i64))))
abbrev dataD : Type := (List Int) × (List (List Int))
abbrev dataO : O := (.p (.sl (.fz (.int .i64))) (.sl (.sl (.fz (.int .i64)))))
abbrev ChangeT : T := (.p (.int .i64) (.p (.int .i64) (.p (.int .i64) (.int .i64))))
abbrev ChangeD : Type := Int × (Int × (Int × Int))
abbrev ChangeO : O := (.fz ChangeT)
abbrev historyT : T := (.p SchemaT (.p (.sl dataT) (.p (.sl (.sl ChangeT)) (.int .i64))))
abbrev historyD : Type := SchemaD × ((List dataD) × ((List (List ChangeD)) × Int))
abbrev historyO : O := (.p SchemaO (.p (.sl dataO) (.p (.sl (.sl ChangeO)) (.fz (.int .i64)))))
abbrev grothendieckT : T := (.p CategoryT (.p (.sl (.sl (.int .i64))) (.p (.sl (.sl (.int .i64))) (.p .any .any))))
abbrev grothendieckO : O := (.p CategoryO (.p (.sl (.sl (.fz (.int .i64)))) (.p (.sl (.sl (.fz (.int .i64)))) (.p (.fz .any) (.fz .any)))))
abbrev searchT : T := (.p (.pt CategoryT) (.p (.pt CategoryT) (.p (.sl (.int .i64)) (.p (.sl (.int .i64)) (.p .bool .any)))))
abbrev searchO : O := (.p (.fz (.pt CategoryT)) (.p (.fz (.pt CategoryT)) (.p (.sl (.fz (.int .i64))) (.p (.sl (.fz (.int .i64))) (.p (.fz .bool) (.fz .any))))))
abbrev TransformationT : T := (.p FunctorT (.p FunctorT (.sl (.int .i64))))
abbrev TransformationD : Type := FunctorD × (FunctorD × (List Int))
abbrev TransformationO : O := (.p FunctorO (.p FunctorO (.sl (.fz (.int .i64)))))
abbrev mapSearchT : T := (.p (.pt SetFunctorT) (.p (.pt SetFunctorT) (.p .bool (.p (.sl (.sl (.int .i64))) .any))))
abbrev mapSearchO : O := (.p (.fz (.pt SetFunctorT)) (.p (.fz (.pt SetFunctorT)) (.p (.fz .bool) (.p (.sl (.sl (.fz (.int .i64)))) (.fz .any)))))
abbrev StructureT : T := (.p (.sl SetFunctorT) (.sl dataT))
abbrev StructureD : Type := (List SetFunctorD) × (List dataD)
abbrev StructureO : O := (.p (.sl SetFunctorO) (.sl dataO))
abbrev lettersT : T := (.p (.sl (.int .i32)) (.p (.sl ruleT) .bool))
abbrev lettersD : Type := (List Int) × ((List ruleD) × Bool)
abbrev lettersO : O := (.p (.sl (.fz (.int .i32))) (.p (.sl ruleO) (.fz .bool)))
abbrev MonadT : T := (.p FunctorT (.p (.sl (.int .i64)) (.sl (.int .i64))))
abbrev MonadD : Type := FunctorD × ((List Int) × (List Int))
abbrev MonadO : O := (.p FunctorO (.p (.sl (.fz (.int .i64))) (.sl (.fz (.int .i64)))))
abbrev binderT : T := (.p (.pt MonadT) (.p (.pt CategoryT) .any))
abbrev binderO : O := (.fz binderT)
abbrev forcingT : T := (.p (.pt StructureT) (.pt CategoryT))
abbrev forcingO : O := (.fz forcingT)
abbrev StepT : T := (.p (.int .i64) (.p (.sl (.int .i64)) (.p (.sl (.int .i64)) (.p (.sl .str) (.p .str (.p (.int .i64) .str))))))
abbrev StepD : Type := Int × ((List Int) × ((List Int) × ((List ByteArray) × (ByteArray × (Int × ByteArray)))))
abbrev StepO : O := (.p (.fz (.int .i64)) (.p (.sl (.fz (.int .i64))) (.p (.sl (.fz (.int .i64))) (.p (.sl (.fz .str)) (.p (.fz .str) (.p (.fz (.int .i64)) (.fz .str)))))))
abbrev sequentT : T := (.p (.sl (.int .i64)) (.p (.sl .str) .str))
abbrev sequentD : Type := (List Int) × ((List ByteArray) × ByteArray)
abbrev sequentO : O := (.p (.sl (.fz (.int .i64))) (.p (.sl (.fz .str)) (.fz .str)))
abbrev checkerT : T := (.p (.pt StructureT) (.p (.pt StepT) (.sl sequentT)))
abbrev checkerO : O := (.p (.fz (.pt StructureT)) (.p (.fz (.pt StepT)) (.sl sequentO)))
abbrev axiomT : T := (.int .i64)
abbrev axiomD : Type := Int
abbrev axiomO : O := (.fz axiomT)
abbrev connectingT : T := (.int .i64)
abbrev connectingD : Type := Int
abbrev connectingO : O := (.fz connectingT)
abbrev bindingT : T := (.int .i64)
abbrev bindingD : Type := Int
abbrev bindingO : O := (.fz bindingT)
abbrev algebrasT : T := (.p (.pt MonadT) (.p CategoryT (.p (.sl (.pt endsT)) (.p (.sl (.sl (.int .i64))) .any))))
abbrev algebrasO : O := (.p (.fz (.pt MonadT)) (.p CategoryO (.p (.sl (.fz (.pt endsT))) (.p (.sl (.sl (.fz (.int .i64)))) (.fz .any)))))
abbrev FamilyT : T := (.p CategoryT (.p (.sl CategoryT) (.sl FunctorT)))
abbrev FamilyD : Type := CategoryD × ((List CategoryD) × (List FunctorD))
abbrev FamilyO : O := (.p CategoryO (.p (.sl CategoryO) (.sl FunctorO)))
abbrev totalT : T := (.p CategoryT (.p (.sl (.sl (.int .i64))) (.sl (.sl (.int .i64)))))
abbrev totalD : Type := CategoryD × ((List (List Int)) × (List (List Int)))
abbrev totalO : O := (.p CategoryO (.p (.sl (.sl (.fz (.int .i64)))) (.sl (.sl (.fz (.int .i64))))))
abbrev spec_l01SourceT : T := (.p (.sl (.int .u8)) (.p (.int .i64) (.int .u64)))
abbrev spec_l01SourceD : Type := (List Int) × (Int × Int)
abbrev spec_l01SourceO : O := (.p (.sl (.fz (.int .u8))) (.p (.fz (.int .i64)) (.fz (.int .u64))))
abbrev spec_l23LeftsT : T := (.p SetFunctorT (.p (.sl (.sl (.sl (.int .i64)))) (.p (.sl (.sl (.int .i64))) .bool)))
abbrev spec_l23LeftsD : Type := SetFunctorD × ((List (List (List Int))) × ((List (List Int)) × Bool))
abbrev spec_l23LeftsO : O := (.p SetFunctorO (.p (.sl (.sl (.sl (.fz (.int .i64))))) (.p (.sl (.sl (.fz (.int .i64)))) (.fz .bool))))
abbrev spec_l23RightsT : T := (.p SetFunctorT (.p (.sl (.sl (.sl (.int .i64)))) (.p (.sl (.sl (.sl (.int .i64)))) .bool)))
abbrev spec_l23RightsD : Type := SetFunctorD × ((List (List (List Int))) × ((List (List (List Int))) × Bool))
abbrev spec_l23RightsO : O := (.p SetFunctorO (.p (.sl (.sl (.sl (.fz (.int .i64))))) (.p (.sl (.sl (.sl (.fz (.int .i64))))) (.fz .bool))))
abbrev spec_l33FractionsT : T := (.p CategoryT (.p (.sl (.int .i64)) (.p (.sl (.sl (.sl (.sl (.int .i64))))) (.p (.sl (.sl (.sl (.int .i64)))) (.sl (.sl (.int .i64)))))))
abbrev spec_l33FractionsD : Type := CategoryD × ((List Int) × ((List (List (List (List Int)))) × ((List (List (List Int))) × (List (List Int)))))
abbrev spec_l33FractionsO : O := (.p CategoryO (.p (.sl (.fz (.int .i64))) (.p (.sl (.sl (.sl (.sl (.fz (.int .i64)))))) (.p (.sl (.sl (.sl (.fz (.int .i64))))) (.sl (.sl (.fz (.int .i64))))))))
abbrev spec_l36SpaceT : T := (.p CategoryT (.p (.sl PathT) (.sl (.int .i64))))
abbrev spec_l36SpaceD : Type := CategoryD × ((List PathD) × (List Int))
abbrev spec_l36SpaceO : O := (.p CategoryO (.p (.sl PathO) (.sl (.fz (.int .i64)))))
abbrev spec_l37LeadT : T := (.p SchemaMapT (.p spec_l36SpaceT spec_l36SpaceT))
abbrev spec_l37LeadD : Type := SchemaMapD × (spec_l36SpaceD × spec_l36SpaceD)
abbrev spec_l37LeadO : O := (.p SchemaMapO (.p spec_l36SpaceO spec_l36SpaceO))
abbrev spec_l27TableT : T := (.p CategoryT (.p (.sl (.sl (.sl (.int .i64)))) (.p (.sl (.sl (.int .i64))) (.sl (.int .i64)))))
abbrev spec_l27TableD : Type := CategoryD × ((List (List (List Int))) × ((List (List Int)) × (List Int)))
abbrev spec_l27TableO : O := (.p CategoryO (.p (.sl (.sl (.sl (.fz (.int .i64))))) (.p (.sl (.sl (.fz (.int .i64)))) (.sl (.fz (.int .i64))))))
abbrev spec_l07StateT : T := (.p FunctorT (.p FunctorT (.p .bool (.p (.int .i64) (.sl (.sl (.int .i64)))))))
abbrev spec_l07StateD : Type := FunctorD × (FunctorD × (Bool × (Int × (List (List Int)))))
abbrev spec_l07StateO : O := (.p FunctorO (.p FunctorO (.p (.fz .bool) (.p (.fz (.int .i64)) (.sl (.sl (.fz (.int .i64))))))))
abbrev spec_l32CompositeT : T := (.p ProfunctorT (.p (.sl (.sl (.sl (.sl (.int .i64))))) (.sl (.sl (.sl (.int .i64))))))
abbrev spec_l32CompositeD : Type := ProfunctorD × ((List (List (List (List Int)))) × (List (List (List Int))))
abbrev spec_l32CompositeO : O := (.p ProfunctorO (.p (.sl (.sl (.sl (.sl (.fz (.int .i64)))))) (.sl (.sl (.sl (.fz (.int .i64)))))))
abbrev spec_l35ReaderT : T := (.p .str (.p (.int .i64) .bool))
abbrev spec_l35ReaderD : Type := ByteArray × (Int × Bool)
abbrev spec_l35ReaderO : O := (.fz spec_l35ReaderT)
abbrev spec_l24PowerT : T := (.p SetFunctorT (.p (.sl (.sl (.sl (.int .i64)))) (.sl (.sl (.sl (.int .i64))))))
abbrev spec_l24PowerD : Type := SetFunctorD × ((List (List (List Int))) × (List (List (List Int))))
abbrev spec_l24PowerO : O := (.p SetFunctorO (.p (.sl (.sl (.sl (.fz (.int .i64))))) (.sl (.sl (.sl (.fz (.int .i64)))))))
abbrev spec_l10StateT : T := (.p CategoryT (.p CategoryT (.p (.sl (.int .i64)) (.p (.sl (.int .i64)) (.p (.int .i64) (.sl FunctorT))))))
abbrev spec_l10StateD : Type := CategoryD × (CategoryD × ((List Int) × ((List Int) × (Int × (List FunctorD)))))
abbrev spec_l10StateO : O := (.p CategoryO (.p CategoryO (.p (.sl (.fz (.int .i64))) (.p (.sl (.fz (.int .i64))) (.p (.fz (.int .i64)) (.sl FunctorO))))))
abbrev spec_l19SearchT : T := (.p SetFunctorT (.p SetFunctorT (.p .bool (.p (.int .i64) (.sl (.sl (.sl (.int .i64))))))))
abbrev spec_l19SearchD : Type := SetFunctorD × (SetFunctorD × (Bool × (Int × (List (List (List Int))))))
abbrev spec_l19SearchO : O := (.p SetFunctorO (.p SetFunctorO (.p (.fz .bool) (.p (.fz (.int .i64)) (.sl (.sl (.sl (.fz (.int .i64)))))))))
abbrev spec_l29ReaderT : T := (.p .str (.p (.int .i64) (.p (.sl ruleT) .bool)))
abbrev spec_l29ReaderD : Type := ByteArray × (Int × ((List ruleD) × Bool))
abbrev spec_l29ReaderO : O := (.p (.fz .str) (.p (.fz (.int .i64)) (.p (.sl ruleO) (.fz .bool))))
abbrev spec_l08SpaceT : T := (.p CategoryT (.p (.sl FunctorT) (.sl (.sl (.int .i64)))))
abbrev spec_l08SpaceD : Type := CategoryD × ((List FunctorD) × (List (List Int)))
abbrev spec_l08SpaceO : O := (.p CategoryO (.p (.sl FunctorO) (.sl (.sl (.fz (.int .i64))))))
abbrev spec_l22LinkT : T := (.p (.int .i64) (.p (.int .i64) (.p (.sl (.int .i64)) (.sl (.int .i64)))))
abbrev spec_l22LinkD : Type := Int × (Int × ((List Int) × (List Int)))
abbrev spec_l22LinkO : O := (.p (.fz (.int .i64)) (.p (.fz (.int .i64)) (.p (.sl (.fz (.int .i64))) (.sl (.fz (.int .i64))))))
abbrev spec_l22TaskT : T := (.p (.sl (.int .i64)) (.p (.sl spec_l22LinkT) (.p (.sl (.sl (.int .i64))) (.p (.int .i64) (.sl (.sl (.int .i64)))))))
abbrev spec_l22TaskD : Type := (List Int) × ((List spec_l22LinkD) × ((List (List Int)) × (Int × (List (List Int)))))
abbrev spec_l22TaskO : O := (.p (.sl (.fz (.int .i64))) (.p (.sl spec_l22LinkO) (.p (.sl (.sl (.fz (.int .i64)))) (.p (.fz (.int .i64)) (.sl (.sl (.fz (.int .i64))))))))
end Go.Bm

/- Small facts about lists, for the walks. No condition. -/
namespace Go.Bm
def inR (n lo hi : Int) : Bool := decide (lo ≤ n) && decide (n ≤ hi)
theorem inR_iff {n lo hi : Int} : inR n lo hi = true ↔ lo ≤ n ∧ n ≤ hi := by simp [inR]

def withinR (l : List Int) (n : Int) : Bool := l.all fun y => inR y 0 (n - 1)

theorem within_iff {l : List Int} {n : Int} : withinR l n = true ↔ ∀ i : Int, 0 ≤ i → i < l.length → 0 ≤ l.getD i.toNat 0 ∧ l.getD i.toNat 0 < n := by
  simp only [withinR, List.all_eq_true, inR, Bool.and_eq_true, decide_eq_true_eq]
  constructor
  · intro h i h0 h1
    have := h _ (getD_mem l 0 h0 h1)
    omega
  · intro h x hx
    obtain ⟨k, hk, rfl⟩ := List.getElem_of_mem hx
    have := h k (by omega) (by omega)
    rw [Int.toNat_natCast, List.getD_eq_getElem?_getD, List.getElem?_eq_getElem hk] at this
    simp only [Option.getD_some] at this
    omega

theorem flat_le {α : Type} {B : Nat} : ∀ {L : List (List α)}, (∀ l ∈ L, l.length ≤ B) → L.flatten.length ≤ L.length * B
  | [], _ => by simp
  | l :: L, h => by
    have h1 := h l (by simp)
    have h2 := flat_le (L := L) fun x hx => h x (by simp [hx])
    simp only [List.flatten_cons, List.length_append, List.length_cons, Nat.add_mul]
    omega
theorem flatMap_le {α β : Type} {B : Nat} {f : α → List β} : ∀ {L : List α}, (∀ l ∈ L, (f l).length ≤ B) → (L.flatMap f).length ≤ L.length * B
  | [], _ => by simp
  | l :: L, h => by
    have h1 := h l (by simp)
    have h2 := flatMap_le (L := L) fun x hx => h x (by simp [hx])
    simp only [List.flatMap_cons, List.length_append, List.length_cons, Nat.add_mul]
    omega

/-- for all integers from 0 to n -/
def allB : Nat → (Int → Bool) → Bool
  | 0, _ => true
  | n + 1, p => allB n p && p n
theorem allB_iff {p : Int → Bool} : ∀ {n : Nat}, allB n p = true ↔ ∀ i : Int, 0 ≤ i → i < n → p i = true
  | 0 => by simp only [allB, true_iff]; intro i h0 h1; omega
  | n + 1 => by
    simp only [allB, Bool.and_eq_true, allB_iff (n := n)]
    constructor
    · rintro ⟨h1, h2⟩ i h0 hi
      by_cases e : i = n
      · rw [e]; exact h2
      · exact h1 i h0 (by omega)
    · intro h
      exact ⟨fun i h0 h1 => h i h0 (by omega), h n (by omega) (by omega)⟩

/-- the first from i on, of k -/
def scanR {α : Type} (p : Int → Option α) : Nat → Int → Option α
  | 0, _ => none
  | k + 1, i => match p i with | some r => some r | none => scanR p k (i + 1)
theorem scan_s {α : Type} {p : Int → Option α} {n i : Int} {r : α} (h : i < n) (hp : p i = some r) : scanR p (n - i).toNat i = some r := by
  rw [show (n - i).toNat = (n - (i + 1)).toNat + 1 from by omega, scanR, hp]
theorem scan_c {α : Type} {p : Int → Option α} {n i : Int} (h : i < n) (hp : p i = none) : scanR p (n - i).toNat i = scanR p (n - (i + 1)).toNat (i + 1) := by
  rw [show (n - i).toNat = (n - (i + 1)).toNat + 1 from by omega, scanR, hp]
theorem scan_n {α : Type} {p : Int → Option α} {n : Int} : scanR p (n - n).toNat n = none := by
  rw [show (n - n).toNat = 0 from by omega, scanR]
theorem scan_0 {α : Type} {p : Int → Option α} {n : Nat} : scanR p n 0 = scanR p ((n : Int) - 0).toNat 0 := by rw [show ((n : Int) - 0).toNat = n from by omega]

def orR {α : Type} : Option α → α → α
  | some x, _ => x
  | none, y => y

/-- the numbers from 0 to n that are asked for -/
def selR : Nat → (Int → Bool) → List Int
  | 0, _ => []
  | n + 1, p => if p n = true then selR n p ++ [(n : Int)] else selR n p
theorem sel_t {p : Int → Bool} {i : Int} (h0 : 0 ≤ i) (h : p i = true) : selR (i + 1).toNat p = selR i.toNat p ++ [i] := by
  rw [show (i + 1).toNat = i.toNat + 1 from by omega, selR, show ((i.toNat : Nat) : Int) = i from by omega, if_pos h]
theorem sel_f {p : Int → Bool} {i : Int} (h0 : 0 ≤ i) (h : p i = false) : selR (i + 1).toNat p = selR i.toNat p := by
  rw [show (i + 1).toNat = i.toNat + 1 from by omega, selR, show ((i.toNat : Nat) : Int) = i from by omega, if_neg (by rw [h]; simp)]
theorem sel_len {p : Int → Bool} : ∀ n : Nat, (selR n p).length ≤ n
  | 0 => Nat.le_refl _
  | n + 1 => by
    have := sel_len (p := p) n
    unfold selR
    split
    · rw [List.length_append]; simp; omega
    · omega
theorem sel_mem {p : Int → Bool} {x : Int} : ∀ {n : Nat}, x ∈ selR n p ↔ 0 ≤ x ∧ x < n ∧ p x = true
  | 0 => by simp only [selR, List.not_mem_nil, false_iff]; omega
  | n + 1 => by
    unfold selR
    split
    · rename_i h
      rw [List.mem_append, sel_mem, List.mem_singleton]
      constructor
      · rintro (⟨a, b, c⟩ | rfl)
        · exact ⟨a, by omega, c⟩
        · exact ⟨by omega, by omega, h⟩
      · rintro ⟨a, b, c⟩
        by_cases e : x = n
        · exact .inr e
        · exact .inl ⟨a, by omega, c⟩
    · rename_i h
      rw [sel_mem]
      constructor
      · rintro ⟨a, b, c⟩; exact ⟨a, by omega, c⟩
      · rintro ⟨a, b, c⟩
        by_cases e : x = n
        · subst e; exact absurd c h
        · exact ⟨a, by omega, c⟩

theorem sel_congr {p q : Int → Bool} : ∀ {n : Nat}, (∀ i : Int, 0 ≤ i → i < n → p i = q i) → selR n p = selR n q
  | 0, _ => rfl
  | n + 1, h => by
    unfold selR
    rw [h n (by omega) (by omega), sel_congr fun i h0 h1 => h i h0 (by omega)]
theorem set_getD {α : Type} (l : List α) (k y : Nat) (x d : α) (hk : k < l.length) : (l.set k x).getD y d = if k = y then x else l.getD y d := by
  rw [List.getD_eq_getElem?_getD, List.getD_eq_getElem?_getD, List.getElem?_set]
  split
  · rename_i h; subst h; simp [hk]
  · rfl

/-- a table -/
def tabN {α : Type} : Nat → (Int → α) → List α
  | 0, _ => []
  | n + 1, f => tabN n f ++ [f n]
theorem tabN_len {α : Type} {f : Int → α} : ∀ n : Nat, (tabN n f).length = n
  | 0 => rfl
  | n + 1 => by simp [tabN, tabN_len n]
theorem tabN_s {α : Type} {f : Int → α} {i : Int} (h0 : 0 ≤ i) : tabN (i + 1).toNat f = tabN i.toNat f ++ [f i] := by
  rw [show (i + 1).toNat = i.toNat + 1 from by omega, tabN, show ((i.toNat : Nat) : Int) = i from by omega]
theorem tabN_get {α : Type} {f : Int → α} {d : α} {i : Int} : ∀ {n : Nat}, 0 ≤ i → i < n → (tabN n f).getD i.toNat d = f i
  | 0, h0, h1 => by omega
  | n + 1, h0, h1 => by
    unfold tabN
    by_cases e : i = n
    · subst e
      rw [List.getD_eq_getElem?_getD, List.getElem?_append_right (by rw [tabN_len]; omega), tabN_len]
      simp
    · rw [List.getD_eq_getElem?_getD, List.getElem?_append_left (by rw [tabN_len]; omega), ← List.getD_eq_getElem?_getD]
      exact tabN_get h0 (by omega)
theorem tabN_mem {α : Type} {f : Int → α} {x : α} : ∀ {n : Nat}, x ∈ tabN n f ↔ ∃ i : Int, 0 ≤ i ∧ i < n ∧ x = f i
  | 0 => by simp only [tabN, List.not_mem_nil, false_iff]; rintro ⟨i, h0, h1, _⟩; omega
  | n + 1 => by
    unfold tabN
    rw [List.mem_append, tabN_mem, List.mem_singleton]
    constructor
    · rintro (⟨i, h0, h1, h⟩ | h)
      · exact ⟨i, h0, by omega, h⟩
      · exact ⟨n, by omega, by omega, h⟩
    · rintro ⟨i, h0, h1, h⟩
      by_cases e : i = n
      · subst e; exact .inr h
      · exact .inl ⟨i, h0, by omega, h⟩
theorem tabN_congr {α : Type} {f g : Int → α} : ∀ {n : Nat}, (∀ i : Int, 0 ≤ i → i < n → f i = g i) → tabN n f = tabN n g
  | 0, _ => rfl
  | n + 1, h => by
    unfold tabN
    rw [h n (by omega) (by omega), tabN_congr fun i h0 h1 => h i h0 (by omega)]

theorem tab_rep {α : Type} (x : α) : ∀ n : Nat, List.replicate n x = tabN n fun _ => x
  | 0 => rfl
  | n + 1 => by rw [List.replicate_succ', tabN, tab_rep x n]
theorem tab_app {α : Type} {f : Int → α} {n : Nat} : tabN n f ++ [f n] = tabN (n + 1) f := rfl
theorem tab_set {α : Type} {f : Int → α} {x : α} {k : Int} : ∀ {n : Nat}, 0 ≤ k → k < n → (tabN n f).set k.toNat x = tabN n fun y => if y = k then x else f y
  | 0, h0, h1 => by omega
  | n + 1, h0, h1 => by
    unfold tabN
    by_cases e : k = n
    · subst e
      rw [List.set_append, if_neg (by rw [tabN_len]; omega), tabN_len]
      simp only [Int.toNat_natCast, Nat.sub_self, List.set_cons_zero, if_true]
      rw [tabN_congr (g := fun y => if y = (n : Int) then x else f y) fun i i0 i1 => by rw [if_neg (by omega)]]
    · rw [List.set_append, if_pos (by rw [tabN_len]; omega), tab_set h0 (by omega)]; dsimp only; rw [if_neg (Ne.symm e)]
theorem tab_mark {f : Int → Bool} {n : Nat} {k : Int} (h0 : 0 ≤ k) (h1 : k < n) : (tabN n f).set k.toNat true = tabN n fun y => f y || k == y := by
  rw [tab_set h0 h1]
  refine tabN_congr fun i _ _ => ?_
  by_cases e : i = k
  · subst e; simp
  · rw [if_neg e, beq_eq_false_iff_ne.2 (Ne.symm e), Bool.or_false]
theorem sel_tab {f : Int → Bool} {n : Nat} : selR (tabN n f).length (fun i => (tabN n f).getD i.toNat false) = selR n f := by
  rw [tabN_len]; exact sel_congr fun i i0 i1 => tabN_get i0 i1
theorem any_take {α : Type} {p : α → Bool} (l : List α) (d : α) {i : Int} (h0 : 0 ≤ i) (h1 : i < l.length) : (l.take (i + 1).toNat).any p = ((l.take i.toNat).any p || p (l.getD i.toNat d)) := by
  rw [take_c l d h0 h1, List.any_append]; simp
theorem all_take {α : Type} {p : α → Bool} (l : List α) (d : α) {i : Int} (h0 : 0 ≤ i) (h1 : i < l.length) : (l.take (i + 1).toNat).all p = ((l.take i.toNat).all p && p (l.getD i.toNat d)) := by
  rw [take_c l d h0 h1, List.all_append]; simp
/-- the room of a list that cannot be long -/
theorem room_of {n m b : Nat} (h : (n + m) * b ≤ 140737488355328) : room n m b := by unfold room; rw [nb_eq]; exact h
/-- what some number below n has -/
def anyB : Nat → (Int → Bool) → Bool
  | 0, _ => false
  | n + 1, p => anyB n p || p n
theorem anyB_iff {p : Int → Bool} : ∀ {n : Nat}, anyB n p = true ↔ ∃ i : Int, 0 ≤ i ∧ i < n ∧ p i = true
  | 0 => by simp only [anyB, Bool.false_eq_true, false_iff]; rintro ⟨i, h0, h1, _⟩; omega
  | n + 1 => by
    simp only [anyB, Bool.or_eq_true, anyB_iff (n := n)]
    constructor
    · rintro (⟨i, h0, h1, h2⟩ | h)
      · exact ⟨i, h0, by omega, h2⟩
      · exact ⟨n, by omega, by omega, h⟩
    · rintro ⟨i, h0, h1, h2⟩
      by_cases e : i = n
      · subst e; exact .inr h2
      · exact .inl ⟨i, h0, by omega, h2⟩
theorem anyB_s {p : Int → Bool} {i : Int} (h0 : 0 ≤ i) : anyB (i + 1).toNat p = (anyB i.toNat p || p i) := by
  rw [show (i + 1).toNat = i.toNat + 1 from by omega, anyB, show ((i.toNat : Nat) : Int) = i from by omega]
theorem allB_s {p : Int → Bool} {i : Int} (h0 : 0 ≤ i) : allB (i + 1).toNat p = (allB i.toNat p && p i) := by
  rw [show (i + 1).toNat = i.toNat + 1 from by omega, allB, show ((i.toNat : Nat) : Int) = i from by omega]
theorem any_sel {p q : Int → Bool} : ∀ {n : Nat}, (selR n p).any q = anyB n fun x => p x && q x
  | 0 => rfl
  | n + 1 => by
    unfold selR anyB
    split
    · rename_i h; rw [List.any_append, any_sel]; simp [h]
    · rename_i h; rw [any_sel]; simp [h]
theorem all_sel {p q : Int → Bool} : ∀ {n : Nat}, (selR n p).all q = allB n fun x => !p x || q x
  | 0 => rfl
  | n + 1 => by
    unfold selR allB
    split
    · rename_i h; rw [List.all_append, all_sel]; simp [h]
    · rename_i h; rw [all_sel]; simp [h]
theorem fil_sel {p q : Int → Bool} : ∀ {n : Nat}, (selR n p).filter q = selR n fun x => p x && q x
  | 0 => rfl
  | n + 1 => by
    unfold selR
    cases h : p n <;> cases g : q n <;> simp [h, g, fil_sel (n := n)]

theorem all_ix {α : Type} {d : α} {l : List α} {p : α → Prop} : (∀ a ∈ l, p a) ↔ ∀ i : Int, 0 ≤ i → i < l.length → p (l.getD i.toNat d) := by
  constructor
  · intro h i h0 h1; exact h _ (getD_mem l d h0 h1)
  · intro h a ha
    obtain ⟨k, hk, rfl⟩ := List.getElem_of_mem ha
    have := h k (by omega) (by omega)
    rw [Int.toNat_natCast, List.getD_eq_getElem?_getD, List.getElem?_eq_getElem hk] at this
    exact this

/-- A loop over an index beside what is gathered: what is gathered is F of the index. -/
theorem loop_ixa {α : Type} (F : Int → α) {n i0 : Int} {a0 : α} {body : (Unit × (Int × Unit)) × (α × Unit) → ((Unit × (Int × Unit)) × (α × Unit) → Prop) → Prop} (hn : i0 ≤ n) (h0 : a0 = F i0)
    (hs : ∀ i next, i0 ≤ i → i < n → next (((), (i + 1, ())), (F (i + 1), ())) → body (((), (i, ())), (F i, ())) next) (he : ∀ next, body (((), (n, ())), (F n, ())) next) : loopW body (((), (i0, ())), (a0, ())) := by
  refine loop_of (fun s => s.2.1 = F s.1.2.1 ∧ i0 ≤ s.1.2.1 ∧ s.1.2.1 ≤ n) (fun s => (n - s.1.2.1).toNat) ?_ ⟨h0, Int.le_refl _, hn⟩
  rintro ⟨⟨_, i, _⟩, y, _⟩ next ⟨hy, h1, h2⟩ hnx
  dsimp only at hy h1 h2 hnx
  subst hy
  by_cases e : i = n
  · subst e; exact he next
  · exact hs i next h1 (by omega) (hnx _ ⟨rfl, by dsimp only; omega, by dsimp only; omega⟩ (by dsimp only; omega))
/-- The same, where a number is gathered ahead of the index. -/
theorem loop_ixc {α : Type} (F : Int → α) {n i0 : Int} {a0 : α} {body : (α × (Int × Unit)) × Unit → ((α × (Int × Unit)) × Unit → Prop) → Prop} (hn : i0 ≤ n) (h0 : a0 = F i0)
    (hs : ∀ i next, i0 ≤ i → i < n → next ((F (i + 1), (i + 1, ())), ()) → body ((F i, (i, ())), ()) next) (he : ∀ next, body ((F n, (n, ())), ()) next) : loopW body ((a0, (i0, ())), ()) := by
  refine loop_of (fun s => s.1.1 = F s.1.2.1 ∧ i0 ≤ s.1.2.1 ∧ s.1.2.1 ≤ n) (fun s => (n - s.1.2.1).toNat) ?_ ⟨h0, Int.le_refl _, hn⟩
  rintro ⟨⟨y, i, _⟩, _⟩ next ⟨hy, h1, h2⟩ hnx
  dsimp only at hy h1 h2 hnx
  subst hy
  by_cases e : i = n
  · subst e; exact he next
  · exact hs i next h1 (by omega) (hnx _ ⟨rfl, by dsimp only; omega, by dsimp only; omega⟩ (by dsimp only; omega))
/-- A loop that ends early where a test fails. -/
theorem loop_all {α : Type} (l : List α) (d : α) (p : α → Bool) {body : (Int × Unit) × Unit → ((Int × Unit) × Unit → Prop) → Prop}
    (hs : ∀ (i : Int) next, 0 ≤ i → i < l.length → (p (l.getD i.toNat d) = false → l.all p = false) → (p (l.getD i.toNat d) = true → next ((i + 1, ()), ())) → body ((i, ()), ()) next)
    (he : ∀ next, l.all p = true → body (((l.length : Int), ()), ()) next) : loopW body ((0, ()), ()) := by
  refine loop_ix (n := l.length) (fun i => (l.take i.toNat).all p = true) (by omega) (by simp) ?_ ?_
  · intro i next i0 i1 hP hn
    have ht := all_take (p := p) l d i0 i1
    rw [hP, Bool.true_and] at ht
    rw [ht] at hn
    exact hs i next i0 i1 (fun h => by rw [List.all_eq_false]; exact ⟨_, getD_mem l d i0 i1, by rw [h]; simp⟩) hn
  · intro next hP
    rw [take_n _ (Int.le_refl _)] at hP
    exact he next hP
/-- The same over numbers. -/
theorem loop_allB (n : Nat) (p : Int → Bool) {body : (Int × Unit) × Unit → ((Int × Unit) × Unit → Prop) → Prop}
    (hs : ∀ (i : Int) next, 0 ≤ i → i < n → (p i = false → allB n p = false) → (p i = true → next ((i + 1, ()), ())) → body ((i, ()), ()) next)
    (he : ∀ next, allB n p = true → body (((n : Int), ()), ()) next) : loopW body ((0, ()), ()) := by
  refine loop_ix (n := n) (fun i => allB i.toNat p = true) (by omega) rfl ?_ ?_
  · intro i next i0 i1 hP hn
    rw [allB_s i0, hP, Bool.true_and] at hn
    refine hs i next i0 i1 (fun h => ?_) hn
    cases hb : allB n p with
    | false => rfl
    | true => rw [allB_iff.1 hb i i0 i1] at h; cases h
  · intro next hP
    exact he next hP
/-- A loop that gathers what passes a test. -/
theorem loop_fil (l : List Int) (p : Int → Bool) {body : (Unit × (Int × Unit)) × (List Int × Unit) → ((Unit × (Int × Unit)) × (List Int × Unit) → Prop) → Prop}
    (hs : ∀ (i : Int) (out : List Int) next, 0 ≤ i → i < l.length → (∀ s : List Int, s = (if p (l.getD i.toNat 0) = true then out ++ [l.getD i.toNat 0] else out) → next (((), (i + 1, ())), (s, ()))) → out.length ≤ l.length → body (((), (i, ())), (out, ())) next)
    (he : ∀ next, body (((), ((l.length : Int), ())), (l.filter p, ())) next) : loopW body (((), (0, ())), ([], ())) := by
  refine loop_ixa (fun i => (l.take i.toNat).filter p) (n := l.length) (by omega) rfl ?_ ?_
  · intro i next i0 i1 hn
    refine hs i _ next i0 i1 (fun s h => ?_) (Nat.le_trans (List.length_filter_le _ _) (by rw [List.length_take]; omega))
    rw [take_c l 0 i0 i1, List.filter_append] at hn
    subst h
    by_cases h : p (l.getD i.toNat 0) = true
    · rw [List.filter_cons, if_pos h, List.filter_nil] at hn; rw [if_pos h]; exact hn
    · rw [List.filter_cons, if_neg h, List.filter_nil, List.append_nil] at hn; rw [if_neg h]; exact hn
  · intro next
    rw [take_n _ (Int.le_refl _)]
    exact he next
/-- A loop over numbers that gathers those that pass a test. -/
theorem loop_sel (n : Nat) (p : Int → Bool) {body : (Unit × (Int × Unit)) × (List Int × Unit) → ((Unit × (Int × Unit)) × (List Int × Unit) → Prop) → Prop}
    (hs : ∀ (i : Int) (out : List Int) next, 0 ≤ i → i < n → (∀ s : List Int, s = (if p i = true then out ++ [i] else out) → next (((), (i + 1, ())), (s, ()))) → out.length ≤ n → body (((), (i, ())), (out, ())) next)
    (he : ∀ next, body (((), ((n : Int), ())), (selR n p, ())) next) : loopW body (((), (0, ())), ([], ())) := by
  refine loop_ixa (fun i => selR i.toNat p) (n := n) (by omega) rfl ?_ ?_
  · intro i next i0 i1 hn
    have := sel_len (p := p) i.toNat
    refine hs i _ next i0 i1 (fun s h => ?_) (by omega)
    subst h
    split
    · rename_i h; rw [← sel_t i0 h]; exact hn
    · rename_i h; rw [← sel_f i0 (by simpa using h)]; exact hn
  · intro next
    exact he next
/-- A loop over a list that puts lists one behind the other. -/
theorem loop_cat {α β : Type} (l : List α) (d : α) (g : α → List β) (A : List β) (B : Nat) (hB : ∀ x ∈ l, (g x).length ≤ B) {body : (Unit × (Int × Unit)) × (List β × Unit) → ((Unit × (Int × Unit)) × (List β × Unit) → Prop) → Prop}
    (hs : ∀ (i : Int) (out : List β) next, 0 ≤ i → i < l.length → out.length + (g (l.getD i.toNat d)).length ≤ A.length + l.length * B → next (((), (i + 1, ())), (out ++ g (l.getD i.toNat d), ())) → body (((), (i, ())), (out, ())) next)
    (he : ∀ next, body (((), ((l.length : Int), ())), (A ++ l.flatMap g, ())) next) : loopW body (((), (0, ())), (A, ())) := by
  refine loop_ixa (fun i => A ++ (l.take i.toNat).flatMap g) (n := l.length) (by omega) (by simp) ?_ ?_
  · intro i next i0 i1 hn
    have hk : (l.take (i + 1).toNat).flatMap g = (l.take i.toNat).flatMap g ++ g (l.getD i.toNat d) := by
      rw [take_c l d i0 i1, List.flatMap_append]; simp
    rw [hk, ← List.append_assoc] at hn
    refine hs i _ next i0 i1 ?_ hn
    have h1 := @flatMap_le α β B g (l.take (i + 1).toNat) fun x hx => hB x (List.mem_of_mem_take hx)
    rw [hk, List.length_append] at h1
    have h2 : (l.take (i + 1).toNat).length ≤ l.length := by rw [List.length_take]; omega
    have h3 := Nat.mul_le_mul_right B h2
    rw [List.length_append]
    omega
  · intro next
    rw [take_n _ (Int.le_refl _)]
    exact he next
/-- The same over numbers. -/
theorem loop_catB {β : Type} (n : Int) (hn0 : 0 ≤ n) (g : Int → List β) (A : List β) (B : Nat) (hB : ∀ x : Int, 0 ≤ x → x < n → (g x).length ≤ B) {body : (Unit × (Int × Unit)) × (List β × Unit) → ((Unit × (Int × Unit)) × (List β × Unit) → Prop) → Prop}
    (hs : ∀ (i : Int) (out : List β) next, 0 ≤ i → i < n → out.length + (g i).length ≤ A.length + n.toNat * B → next (((), (i + 1, ())), (out ++ g i, ())) → body (((), (i, ())), (out, ())) next)
    (he : ∀ next, body (((), (n, ())), (A ++ (tabN n.toNat g).flatten, ())) next) : loopW body (((), (0, ())), (A, ())) := by
  refine loop_ixa (fun i => A ++ (tabN i.toNat g).flatten) (n := n) hn0 (by simp [tabN]) ?_ ?_
  · intro i next i0 i1 hn
    have hk : (tabN (i + 1).toNat g).flatten = (tabN i.toNat g).flatten ++ g i := by
      rw [tabN_s i0, List.flatten_append]; simp
    rw [hk, ← List.append_assoc] at hn
    refine hs i _ next i0 i1 ?_ hn
    have h1 := @flat_le β B (tabN (i + 1).toNat g) fun l hl => by
      obtain ⟨j, j0, j1, rfl⟩ := tabN_mem.1 hl; exact hB j j0 (by omega)
    rw [hk, List.length_append, tabN_len] at h1
    have h3 := Nat.mul_le_mul_right B (show (i + 1).toNat ≤ n.toNat by omega)
    rw [List.length_append]
    omega
  · intro next
    exact he next
/-- the step of such a loop -/
theorem join_add {α : Type} {k : (Unit × Unit) × (List α × Unit) → Prop} {f : ((Unit × Unit) × (List α × Unit) → Prop) → Prop} (r : List α) (hk : ∀ s, s.2.1 = r → k s) (hf : ∀ k', (∀ s : List α, s = r → k' (((), ()), (s, ()))) → f k') : joinW k f :=
  join_of (fun s => s.2.1 = r) hk fun k' h => hf k' fun s hs => h _ hs

/-- What of a list's beginning passes a test. -/
def filT (p : Int → Bool) (l : List Int) (i : Int) : List Int := (l.take i.toNat).filter p
theorem fil_0 {p : Int → Bool} {l : List Int} : filT p l 0 = [] := rfl
theorem fil_t {p : Int → Bool} {l : List Int} {i : Int} (h0 : 0 ≤ i) (h1 : i < l.length) (h : p (l.getD i.toNat 0) = true) : filT p l (i + 1) = filT p l i ++ [l.getD i.toNat 0] := by
  unfold filT; rw [take_c l 0 h0 h1, List.filter_append]; simp only [List.filter_cons, h, if_true, List.filter_nil]
theorem fil_f {p : Int → Bool} {l : List Int} {i : Int} (h0 : 0 ≤ i) (h1 : i < l.length) (h : p (l.getD i.toNat 0) = false) : filT p l (i + 1) = filT p l i := by
  unfold filT; rw [take_c l 0 h0 h1, List.filter_append]; simp only [List.filter_cons, h, Bool.false_eq_true, if_false, List.filter_nil, List.append_nil]
theorem fil_n {p : Int → Bool} {l : List Int} {i : Int} (h : (l.length : Int) ≤ i) : filT p l i = l.filter p := by unfold filT; rw [take_n l h]
theorem fil_len {p : Int → Bool} {l : List Int} {i : Int} : (filT p l i).length ≤ l.length :=
  Nat.le_trans (List.length_filter_le _ _) (by rw [List.length_take]; omega)

/-- What of a list's beginning is found first. -/
def fstT (p : Int → Bool) (l : List Int) (i : Int) : Option Int := (l.take i.toNat).find? p
theorem fst_0 {p : Int → Bool} {l : List Int} : fstT p l 0 = none := rfl
theorem fst_f {p : Int → Bool} {l : List Int} {i : Int} (h0 : 0 ≤ i) (h1 : i < l.length) (h : fstT p l i = none) (hp : p (l.getD i.toNat 0) = false) : fstT p l (i + 1) = none := by
  unfold fstT at *; rw [take_c l 0 h0 h1, List.find?_append, h]; simp only [List.find?_cons, hp, List.find?_nil, Option.or_none]
theorem fst_t {p : Int → Bool} {l : List Int} {i : Int} (h0 : 0 ≤ i) (h1 : i < l.length) (h : fstT p l i = none) (hp : p (l.getD i.toNat 0) = true) : l.find? p = some (l.getD i.toNat 0) := by
  unfold fstT at h
  have e : l.find? p = (l.take i.toNat ++ l.drop i.toNat).find? p := by rw [List.take_append_drop]
  rw [e, List.find?_append, h, drop_c l 0 h0 h1, List.find?_cons, hp]; rfl
theorem fst_n {p : Int → Bool} {l : List Int} (h : fstT p l l.length = none) : l.find? p = none := by
  unfold fstT at h; rwa [take_n l (Int.le_refl _)] at h

end Go.Bm
