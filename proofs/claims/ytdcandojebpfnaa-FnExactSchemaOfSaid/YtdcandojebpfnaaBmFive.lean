/- The typed machine that the walks of this claim go by: its data, its operations and the proof that each is sound. No condition. -/
import Derived.Test.YtdcandojebpfnaaBmFour
import Derived.Scope
import Derived.OpenShut
import Derived.ChangeSlices
import Derived.SizedLaws
import Derived.Below
import Derived.ProofKit
import Derived.ShutString
import Derived.ChangeOld
import Derived.ScopeJumps
set_option linter.unusedVariables false
set_option linter.unusedSimpArgs false
set_option linter.unusedSectionVars false
/- The typed machine: soundness. -/
namespace Go.Bm
open Go.RowKit
section
variable {P : Program} {B : Tab} {Φ : FuncId -> Option Ct}
theorem isB_val {F : Fr} {p : Ow} {env : Env} {M : Mem} {a : Act} {w : World} (h : St F p env M a w) {t : Nat} (hb : (gt env t).isB = true) : a.tmps.getD t undef = .bool (gt env t).boolV := by
 obtain ⟨b, h1, h2⟩ := isB_some hb
 have := h.slots t
 rw [h1, relS_d, relF_bool] at this
 rw [this, h2]
theorem ev_ok (hΦ : Good P Φ) (hB : TabOk P B) (hmix : P.follows .mixedOrders = true) (cut : Nat -> Nat) : (c : Code) -> (F : Fr) -> (A : Ann) -> (K : Ex -> Env -> Mem -> Prop) -> (env : Env) -> (M : Mem) -> okC F.nt cut c = true -> Free F.fv c -> ev B Φ cut c A K env M ->
  ∀ (p : Ow) (a : Act) (w : World), St F p env M a w -> c.wp P (lift F K) a w
 | .skip, F, A, K, env, M, _, _, h, p, a, w, hs => by simp only [ev] at h; exact wp_skip ⟨p, env, M, hs, h⟩
 | .ret, F, A, K, env, M, _, _, h, p, a, w, hs => by simp only [ev] at h; exact wp_ret ⟨p, env, M, hs, h⟩
 | .exit id, F, A, K, env, M, _, _, h, p, a, w, hs => by simp only [ev] at h; exact wp_exit ⟨p, env, M, hs, h⟩
 | .seq x y, F, A, K, env, M, hc, hf, h, p, a, w, hs => by
  simp only [okC, nob_eq, Bool.and_eq_true] at hc
  simp only [ev] at h
  refine wp_seq (Code.wp_mono (fun e a' w' he => ?_) (ev_ok hΦ hB hmix cut x F A.fst _ env M hc.1 hf.1 h p a w hs))
  cases e with
  | normal => obtain ⟨p', env', M', h1, h2⟩ := he; exact ev_ok hΦ hB hmix cut y F A.snd K env' M' hc.2 hf.2 h2 p' a' w' h1
  | exit id => exact he
  | ret => exact he
  | goto l => exact he
  | panic c => exact he.elim
  | outgrown => exact he.elim
 | .region id ops draw, F, A, K, env, M, hc, hf, h, p, a, w, hs => by
  simp only [okC, nob_eq, Bool.and_eq_true] at hc
  simp only [ev] at h
  have hQ : ∀ p env M a w, St F p env M a w -> (fun env M => K .nm (clr env) M) env M -> lift F K .normal a w := fun p env M a w h1 h2 => ⟨p, clr env, M, h1.weak (gt_clr env), h2⟩
  cases draw with
  | false =>
   simp only at h
   have h1 := hc.1
   have h2 : ∀ o ∈ ops.toList, ∀ k, o.dst = some k -> F.fv k = none := by rw [← toL_eq]; exact hf
   rw [toL_eq] at h1
   cases hsq : Nat.beq (cut id) 1600 with
   | true =>
    rw [hsq] at h
    simp only [cond_true] at h
    cases hn : nogd env with
    | false => rw [hn] at h; exact h.elim
    | true =>
    rw [hn] at h
    have := twQ_ok (P := P) hΦ hB ops (lift F K) (fun env M => K .nm (clr env) M) hQ ops.toList p env M a w h1 h2 (nogd_inv hn) hs (by rw [← toL_eq ops]; exact h)
    have e : ops = ops.toList.toArray := by simp
    rw [e]
    exact wp_region_lit (by simpa using this)
   | false =>
   rw [hsq] at h
   simp only [cond_false] at h
   cases hsp : Nat.beq (cut id) 1500 with
   | true =>
    rw [hsp] at h
    simp only [cond_true] at h
    have := twS_ok (P := P) hΦ hB ops (lift F K) (fun env M => K .nm (clr env) M) hQ ops.toList p env M a w h1 h2 hs (by rw [← toL_eq ops]; exact h)
    have e : ops = ops.toList.toArray := by simp
    rw [e]
    exact wp_region_lit (by simpa using this)
   | false =>
   rw [hsp] at h
   simp only [cond_false] at h
   cases hn : nogd env with
   | false => rw [hn] at h; exact h.elim
   | true =>
   rw [hn] at h
   replace h := twG_tw (B := B) (Φ := Φ) _ _ _ (nogd_inv hn) h
   have := tw_ok (P := P) hΦ hB ops (lift F K) (fun env M => K .nm (clr env) M) hQ ops.toList p env M a w h1 h2 hs (by rw [← toL_eq ops]; exact h)
   have e : ops = ops.toList.toArray := by simp
   rw [e]
   exact wp_region_lit (by simpa using this)
  | true =>
   simp only at h
   cases hbx : Nat.beq (cut id) 999999 with
   | true =>
    rw [hbx] at h hc
    simp only [cond_true] at h
    have hs1 := frzRest_ok [] (useIds env (toL ops)) M env hs
    generalize frzRest [] (useIds env (toL ops)) M env = z at h hs1
    obtain ⟨env1, M1⟩ := z
    exact box_ok hΦ hB hmix hc.1 hf hc.2 hQ hs1 h
   | false =>
   rw [hbx] at h hc
   simp only [cond_false] at h hc
   cases hpq : Nat.ble 10000 (cut id) with
   | true =>
    rw [hpq] at h hc
    simp only [cond_true] at h hc
    generalize mC (cut id) = n at h hc
    generalize hrC (cut id) = hr0 at h hc
    generalize decK (cut id) = ks at h
    cases hn : noGdE env with
    | false => rw [hn] at h; exact h.elim
    | true =>
    rw [hn] at h
    simp only [cond_true] at h
    have hc2 := hc.2
    simp only [nob_eq, Bool.and_eq_true] at hc2
    exact perm_ok (R := hr0) (R2 := true) (ks := ks) (as := []) hΦ hB hmix hc2.1 hf hc2.2 (fun h => by cases h) (fun i hi hfl => late_get hi hfl) hQ hs hn h
   | false =>
   rw [hpq] at h hc
   simp only [cond_false] at h hc
   cases hpm : Nat.ble 2000 (cut id) with
   | true =>
    rw [hpm] at h hc
    simp only [cond_true] at h hc
    generalize Nat.sub (cut id) (offC (cut id)) = n at h hc
    generalize (bif Nat.ble 5000 (cut id) then bxKeys env (toL ops) else []) = as at h
    obtain ⟨env1, M1, e1, hs1⟩ : ∃ env1 M1, (bif frzC (cut id) then frzRest [] (useIds env (toL ops)) M env else (env, M)) = (env1, M1) /\ St F p env1 M1 a w := by
     cases frzC (cut id) with
     | true => exact ⟨_, _, rfl, frzRest_ok [] (useIds env (toL ops)) M env hs⟩
     | false => exact ⟨env, M, rfl, hs⟩
    rw [e1] at h
    simp only at h
    cases hn : noGdE env1 with
    | false => rw [hn] at h; exact h.elim
    | true =>
    rw [hn] at h
    simp only [cond_true] at h
    have hc2 := hc.2
    simp only [nob_eq, Bool.and_eq_true] at hc2
    exact perm_ok (R := false) (R2 := false) (ks := []) (as := as) hΦ hB hmix hc2.1 hf hc2.2 (fun _ => rfl) (fun i hi hfl => by cases Nat.ble 5000 (cut id) with | true => exact late_get hi hfl | false => exact rep_true hi) hQ hs1 hn h
   | false =>
   rw [hpm] at h hc
   simp only [cond_false] at h hc
   cases hfx : Nat.ble 1000 (cut id) with
   | true =>
    rw [hfx] at h hc
    simp only [cond_true] at h hc
    generalize Nat.sub (cut id) 1000 = n at h hc
    obtain ⟨env1, M1, e1, hs1⟩ : ∃ env1 M1, frzRest [] (refIdL env (toL ops)) M env = (env1, M1) /\ St F p env1 M1 a w := ⟨_, _, rfl, frzRest_ok [] (refIdL env (toL ops)) M env hs⟩
    rw [e1] at h
    simp only at h
    cases hn : noGdE env1 with
    | false => rw [hn] at h; exact h.elim
    | true =>
    rw [hn] at h
    simp only [cond_true] at h
    exact head_ok (R := false) (ks := []) (as := []) (good_frz hΦ) hB hmix hc.1 hf hc.2 (fun _ => rfl) (fun h => by cases h) hQ hs1 hn (by simp only [chkT_nil, nob_r]; exact h)
   | false =>
   rw [hfx] at h hc
   simp only [cond_false] at h hc
   cases hhx : Nat.ble 500 (cut id) with
   | true =>
    rw [hhx] at h hc
    simp only [cond_true] at h hc
    generalize Nat.sub (cut id) 500 = n at h hc
    cases hn : noGdE env with
    | false => rw [hn] at h; exact h.elim
    | true =>
    rw [hn] at h
    simp only [cond_true] at h
    exact head_ok (R := false) (ks := []) (as := []) hΦ hB hmix hc.1 hf hc.2 (fun _ => rfl) (fun h => by cases h) hQ hs hn (by simp only [chkT_nil, nob_r]; exact h)
   | false =>
   rw [hhx] at h hc
   simp only [cond_false] at h hc
   cases hn : nogd env with
   | false => rw [hn] at h; exact h.elim
   | true =>
   rw [hn] at h
   replace h := dwG_dw (B := B) (Φ := Φ) (fun env hI he => twG_tw (B := B) (Φ := Φ) _ _ _ hI he) _ _ _ (nogd_inv hn) h
   exact draw_ok hΦ hB hmix hc.1 hf hc.2 hQ hs h
 | .cond g x y, F, A, K, env, M, hc, hf, h, p, a, w, hs => by
  simp only [okC, nob_eq, Bool.and_eq_true] at hc
  cases g with
  | const v => simp only [ev] at h
  | func v => simp only [ev] at h
  | global v => simp only [ev] at h
  | tmp t =>
   have plain : ∀ (A1 A2 : Ann) (F' : Fr) (K' : Ex -> Env -> Mem -> Prop), F'.nt = F.nt -> Free F'.fv x -> Free F'.fv y -> St F' p env M a w -> (gt env t).isB = true -> cnd (gt env t).boolV (ev B Φ cut x A1 K' env M) (ev B Φ cut y A2 K' env M) -> (Code.cond (.tmp t) x y).wp P (lift F' K') a w := fun A1 A2 F' K' hnt hfx hfy hs' hb hcn =>
    wp_cond_split (t := (gt env t).boolV) (isB_val hs' hb) (fun e => ev_ok hΦ hB hmix cut x F' A1 K' env M (by rw [hnt]; exact hc.1) hfx (hcn.1 e) p a w hs') (fun e => ev_ok hΦ hB hmix cut y F' A2 K' env M (by rw [hnt]; exact hc.2) hfy (hcn.2 e) p a w hs')
   have nj : ∀ A : Ann, ev B Φ cut (.cond (.tmp t) x y) A K env M = (bif (gt env t).isB then cnd (gt env t).boolV (ev B Φ cut x A.fst K env M) (ev B Φ cut y A.snd K env M) else False) -> ev B Φ cut (.cond (.tmp t) x y) A K env M -> (Code.cond (.tmp t) x y).wp P (lift F K) a w := fun A e h => by
    rw [e] at h
    cases hb : (gt env t).isB with
    | false => rw [hb] at h; exact h.elim
    | true => rw [hb] at h; exact plain A.fst A.snd F K rfl hf.1 hf.2 hs hb h
   cases A with
   | n => exact nj _ (by simp only [ev]) h
   | s A1 A2 => exact nj _ (by simp only [ev]) h
   | l ss os ks A => exact nj _ (by simp only [ev]) h
   | j ss os ks A =>
    simp only [ev] at h
    cases hb : allT [(gt env t).isB, noW ks x, noW ks y] with
    | false => rw [hb] at h; exact h.elim
    | true =>
     rw [hb] at h
     simp only [cond_true, joinW] at h
     simp only [allT_cons, allT_nil, Bool.and_true, Bool.and_eq_true] at hb
     exact join_ok hs (plain A.fst A.snd (mkF F (Imm F p M w) w ks a) _ rfl (free_mk x hb.2.1 hf.1) (free_mk y hb.2.2 hf.2) (hs.fwd ks) hb.1 h)
 | .block id c, F, A, K, env, M, hc, hf, h, p, a, w, hs => by
  simp only [okC] at hc
  have fin : ∀ (F' : Fr) (K2 : Ex -> Env -> Mem -> Prop), c.wp P (lift F' (blkK id K2)) a w -> (Code.block id c).wp P (lift F' K2) a w := fun F' K2 hw => by
   refine wp_block (Code.wp_mono (fun e a' w' he => ?_) hw)
   cases e with
   | normal => exact he
   | exit id' =>
    obtain ⟨p', env', M', h1, h2⟩ := he
    simp only [blkK, beq_cond] at h2
    simp only [Exit.inBlock]
    split at h2
    ·rename_i e; rw [if_pos e]; exact ⟨p', env', M', h1, h2⟩
    ·rename_i e; rw [if_neg e]; exact ⟨p', env', M', h1, h2⟩
   | ret => exact he
   | goto l => exact he
   | panic c => exact he.elim
   | outgrown => exact he.elim
  have nj : ∀ A : Ann, ev B Φ cut (.block id c) A K env M = ev B Φ cut c A (blkK id K) env M -> ev B Φ cut (.block id c) A K env M -> (Code.block id c).wp P (lift F K) a w := fun A e h => by
   rw [e] at h
   exact fin F K (ev_ok hΦ hB hmix cut c F A _ env M hc hf h p a w hs)
  cases A with
  | n => exact nj _ (by simp only [ev]) h
  | s A1 A2 => exact nj _ (by simp only [ev]) h
  | l ss os ks A => exact nj _ (by simp only [ev]) h
  | j ss os ks A =>
   simp only [ev] at h
   cases hb : noW ks c with
   | false => rw [hb] at h; exact h.elim
   | true =>
    rw [hb] at h
    simp only [cond_true, joinW] at h
    exact join_ok hs (fin _ _ (ev_ok hΦ hB hmix cut c (mkF F (Imm F p M w) w ks a) A _ env M hc (free_mk c hb hf) h p a w (hs.fwd ks)))
 | .loop c, F, A, K, env, M, hc, hf, h, p, a, w, hs => by
  simp only [okC] at hc
  cases A with
  | n => simp only [ev] at h
  | s A1 A2 => simp only [ev] at h
  | j ss os ks A => simp only [ev] at h
  | l ss os ks A =>
   simp only [ev] at h
   cases hb : noW ks c with
   | false => rw [hb] at h; exact h.elim
   | true =>
    rw [hb] at h
    simp only [cond_true] at h
    cases hrd : readA ss os env M with
    | none => rw [hrd] at h; exact h.elim
    | some q =>
     rw [hrd] at h
     simp only [loopW] at h
     obtain ⟨n, hn⟩ := h
     obtain ⟨p1, h1, hK⟩ := readA_ok hs hrd
     obtain ⟨o1, o2⟩ := readA_oks hs hrd
     generalize hbody : (fun (s : denS ss × denO os) (next : denS ss × denO os -> Prop) => imps (okS ss s.1) (imps (okO os s.2) (ev B Φ cut c A (joinK ss os next K) (ap (putS ss s.1) (kept q.2 ks)) (putO os s.2)))) = body at hn
     have key := wp_loop_ghost (P := P) (c := c) (Q' := lift F K) (ι := Nat) (fun n a1 w1 => ∃ (p2 : Ow) (s : denS ss × denO os), St (mkF F (Imm F p1 (putO os q.1.2) w) w ks a) p2 (ap (putS ss s.1) (kept q.2 ks)) (putO os s.2) a1 w1 /\ allP (okS ss s.1) /\ allP (okO os s.2) /\ iterW body n s) id
      (fun n a1 w1 ⟨p2, s, g1, g2, g3, g4⟩ => by
       cases n with
       | zero => simp only [iterW] at g4
       | succ n =>
        simp only [iterW] at g4
        have hb1 := congrFun (congrFun hbody s) (iterW body n)
        rw [← hb1] at g4
        simp only [imps_iff] at g4
        refine Code.wp_mono (fun e a' w' he => ?_) (ev_ok hΦ hB hmix cut c (mkF F (Imm F p1 (putO os q.1.2) w) w ks a) A _ _ _ hc (free_mk c hb hf) (g4 g2 g3) p2 a1 w1 g1)
        cases e with
        | normal =>
         obtain ⟨p3, env3, M3, k1, k2⟩ := he
         simp only [joinK, readK] at k2
         cases hr3 : readA ss os env3 M3 with
         | none => rw [hr3] at k2; exact k2.elim
         | some s' =>
          rw [hr3] at k2
          obtain ⟨p4, k3, _⟩ := readA_ok k1 hr3
          obtain ⟨k4, k5⟩ := readA_oks k1 hr3
          exact ⟨n, Nat.lt_succ_self n, p4, s'.1, St.add hK k3, k4, k5, k2⟩
        | exit id => obtain ⟨p3, env3, M3, k1, k2⟩ := he; exact ⟨p3, env3, M3, h1.back k1, k2⟩
        | ret => obtain ⟨p3, env3, M3, k1, k2⟩ := he; exact ⟨p3, env3, M3, h1.back k1, k2⟩
        | goto l => obtain ⟨p3, env3, M3, k1, k2⟩ := he; exact ⟨p3, env3, M3, h1.back k1, k2⟩
        | panic ch => exact he.elim
        | outgrown => exact he.elim)
     exact key n a w ⟨p1, q.1, St.add hK (h1.fwd ks), o1, o2, hn⟩
 | .scope c, F, A, K, env, M, hc, hf, h, p, a, w, hs => by
  simp only [okC] at hc
  simp only [ev] at h
  refine wp_scope_straight (Code.wp_mono (fun e a' w' he => ?_) (ev_ok hΦ hB hmix cut c F A _ env M hc hf h p a w hs))
  cases e with
  | goto l => obtain ⟨_, _, _, _, h2⟩ := he; exact h2.elim
  | normal => exact he
  | exit id => exact he
  | ret => exact he
  | panic ch => exact he
  | outgrown => exact he
 | .goto l, F, A, K, env, M, _, _, h, p, a, w, hs => by simp only [ev] at h; exact wp_goto ⟨p, env, M, hs, h⟩
 | .label _, F, A, K, env, M, _, _, h, p, a, w, hs => by simp only [ev] at h; exact wp_label ⟨p, env, M, hs, h⟩
 | .rangeFunc _ _ _ _, F, A, K, env, M, _, _, h, p, a, w, hs => by simp only [ev] at h
 | .refuse _, F, A, K, env, M, _, _, h, p, a, w, hs => by simp only [ev] at h
end
end Go.Bm
/- The typed machine: a contract out of a walk. -/
namespace Go.Bm
open Go.RowKit
theorem flat_res {Im Im' : Nat -> Prop} {w : World} : (rs : List (Bool × O)) -> flatL rs = true -> (x : denR rs) -> (S : Nat -> Prop) -> (us : List Value) -> ResR Im w rs x S us -> ResR Im' w rs x S us
 | [], _, x, S, us, r => by simpa only [ResR] using r
 | q :: rs, h, x, S, us, r => by
  simp only [flatL, nob_eq, Bool.and_eq_true] at h
  simp only [ResR] at r ⊢
  obtain ⟨u, us', vs, S1, S2, e1, e2, e3, e4, e5, e6, e7, e8⟩ := r
  exact ⟨u, us', vs, S1, S2, e1, e2, e3, e4, e5, e6, flat_rel _ h.1 _ _ _ e7, flat_res rs h.2 _ _ _ e8⟩
section
variable {F : Fr} {p p' p'' : Ow} {env env' : Env} {M M' M'' : Mem} {a a' : Act} {w w' w'' : World} {P : Program} {B : Tab} {Φ : FuncId -> Option Ct}
theorem load_as {t : TypeId} {u r : Value} (h : (Instr.loadAt t u).run P w = .ok r w) : (do loadVar t (← asAddr u) : Sem Value).run P w = .ok r w := by
 cases u <;> simp [Instr.loadAt, Instr.sureAddr] at h
 case pointer o =>
  cases o with
  | none => simp at h
  | some ad => simpa [asAddr] using h
def resM (tmps : Array Value) : ResultVar -> Sem Value
 | .tmp t => pure (tmps.getD t undef)
 | .cell t ty' => do loadVar ty' (← asAddr (tmps.getD t undef))
theorem results_eq (fn : Func) (tmps : Array Value) : results fn tmps = (do let vs ← fn.results.mapM (resM tmps); pure (if h : vs.size = 1 then vs[0] else .tuple vs) : Sem Value) := by
 unfold results
 congr
theorem resV_ok (hB : TabOk P B) (hp : Hp F p M w) (hs : ∀ t, RelS p.β M (Imm F p M w) w (gt env t) (a.tmps.getD t undef)) (rv : ResultVar) (v : V) (hv : resV B env M rv = some v) :
  ∃ r, (resM a.tmps rv).run P w = .ok r w /\ RelS p.β M (Imm F p M w) w v r := by
 cases rv with
 | tmp t => simp only [resV, Option.some.injEq] at hv; subst hv; exact ⟨_, by simp [resM], hs t⟩
 | cell t ty' =>
  simp only [resV] at hv
  split at hv
  ·rename_i v' he
   cases hv
   obtain ⟨r, h1, h2⟩ := evLoad_ok (P := P) hB hp _ _ (hs t) (by rw [he]; trivial)
   rw [he] at h2
   exact ⟨r, load_as h1, h2⟩
  ·cases hv
theorem resG_ok {v : V} {u : Value} {g : Bool} (hp : Hp F p M w) (h : RelS p.β M (Imm F p M w) w v u) (hc : cellV (resG g v) = true) : ∃ vs : List Value, (g = true -> u = .agg vs.toArray) /\ (g = false -> vs = [u]) /\ RelC p.β M (Imm F p M w) w (resG g v) vs := by
 cases v with
 | ag y =>
  cases g with
  | false => simp [resG, cellV] at hc
  | true =>
   simp only [RelS] at h
   obtain ⟨vs, h1, h2⟩ := h
   exact ⟨vs, fun _ => h1, (fun h => nomatch h), by simpa only [resG, cond_true] using h2⟩
 | any => cases g <;> simp [resG, cellV] at hc
 | tup _ => cases g <;> simp [resG, cellV] at hc
 | gd _ _ _ _ => cases g <;> simp [resG, cellV] at hc
 | ifc t x => cases g with
  | true => simp [resG, cellV] at hc
  | false => exact ⟨[u], (fun h => nomatch h), fun _ => rfl, by simpa only [resG, cond_false, RelS] using h⟩
 | p x y => cases g with
  | true => simp [resG, cellV] at hc
  | false => exact ⟨[u], (fun h => nomatch h), fun _ => rfl, by simpa only [resG, cond_false, RelS] using h⟩
 | u => cases g with
  | true => simp [resG, cellV] at hc
  | false => exact ⟨[u], (fun h => nomatch h), fun _ => rfl, by simpa only [resG, cond_false, RelS] using h⟩
 | ref k π => cases g with
  | true => simp [resG, cellV] at hc
  | false => exact ⟨[u], (fun h => nomatch h), fun _ => rfl, by simpa only [resG, cond_false, RelS] using h⟩
 | ad k π => cases g with
  | true => simp [resG, cellV] at hc
  | false => exact ⟨[u], (fun h => nomatch h), fun _ => rfl, by simpa only [resG, cond_false, RelS] using h⟩
 | d t x => cases g with
  | true => simp [resG, cellV] at hc
  | false => exact ⟨[u], (fun h => nomatch h), fun _ => rfl, by simpa only [resG, cond_false, RelS] using h⟩
 | nl => cases g with
  | true => simp [resG, cellV] at hc
  | false => exact ⟨[u], (fun h => nomatch h), fun _ => rfl, by simpa only [resG, cond_false, RelS] using h⟩
 | np => cases g with
  | true => simp [resG, cellV] at hc
  | false => exact ⟨[u], (fun h => nomatch h), fun _ => rfl, by simpa only [resG, cond_false, RelS] using h⟩
 | fn f x => cases g with
  | true => simp [resG, cellV] at hc
  | false => exact ⟨[u], (fun h => nomatch h), fun _ => rfl, by simpa only [resG, cond_false, RelS] using h⟩
 | bx x => cases g with
  | true => simp [resG, cellV] at hc
  | false => exact ⟨[u], (fun h => nomatch h), fun _ => rfl, by simpa only [resG, cond_false, RelS] using h⟩
theorem resO_ok (hp : Hp F p M w) (o : O) (v : V) (vs : List Value) (x : o.strip.den) (e : List Ev) (r : RelC p.β M (Imm F p M w) w v vs) (h : resO M o v = some (x, e, M')) :
  ∃ p', ∃ S : Nat -> Prop, Tr F p M w e p' M' w /\ (∀ b, p'.L b ↔ p.L b ∨ S b) /\ (∀ b, S b -> ¬ p.L b) /\ Rel (Imm F p' M' w) w o x S vs := by
 have key : (match conv gid o.strip v M with
  | some (q, e, M') => (match wkO q o with | some x => some (x, e, M') | none => none)
  | none => none) = some (x, e, M') -> ∃ p', ∃ S : Nat -> Prop, Tr F p M w e p' M' w /\ (∀ b, p'.L b ↔ p.L b ∨ S b) /\ (∀ b, S b -> ¬ p.L b) /\ Rel (Imm F p' M' w) w o x S vs := fun h => by
  split at h
  ·rename_i q e1 M1 hc
   split at h
   ·rename_i y hy
    cases h
    obtain ⟨_, p1, S, cv⟩ := conv_ok gid o.strip v M p vs q e M' hp r hc
    obtain ⟨w1, w2⟩ := wkO_some hy
    obtain ⟨S', s1, s2⟩ := wk_rel q.o o w1 q.x x S vs w2 cv.rel
    have hd := Tr.drop cv.tr.hp (fun b => p.L b ∨ S' b) (fun b hb => (cv.L b).2 (hb.imp id (s1 b)))
    refine ⟨⟨p1.β, p1.σ, fun b => p.L b ∨ S' b⟩, S', by have := cv.tr.trans hd; rwa [ap_nil] at this, fun b => Iff.rfl, fun b hb => cv.sp b (s1 b hb), s2 _ (fun b hb => (hd.keep b hb).1) (fun b hb hn => ?_)⟩
    have hl := cv.tr.hp.lim b ((cv.L b).2 (.inr hb))
    exact ⟨hl.1, .inr (.inr hl.2.1), fun h => h.elim (cv.sp b hb) hn, hl.2.2⟩
   ·cases h
  ·cases h
 cases o with
 | fz t =>
  simp only [resO] at h
  have hf := frzV_ok v M hp
  generalize frzV M v = z at h hf
  obtain ⟨e1, M1⟩ := z
  simp only at h hf
  split at h
  ·rename_i y hy
   cases h
   exact ⟨p, fun _ => False, hf, fun b => by simp, fun b hb => hb.elim, by simp only [Rel]; exact as_ok _ t vs x (hf.c _ _ r) hy⟩
  ·cases h
 | p a b => exact key h
 | sl a => exact key h
 | pt a => exact key h
 | mp _ _ => exact key h
 | op _ => exact key h
theorem resL_ok (hB : TabOk P B) : (rs : List ResultVar) -> (qs : List (Bool × O)) -> (p : Ow) -> (env : Env) -> (M : Mem) -> (y : denR qs) -> Hp F p M w -> (∀ t, RelS p.β M (Imm F p M w) w (gt env t) (a.tmps.getD t undef)) -> resL B env M rs qs = some y ->
  ∃ us p' M', ∃ S : Nat -> Prop, (rs.mapM (resM a.tmps)).run P w = .ok us w /\ Hp F p' M' w /\ Keep (Imm F p M w) (Imm F p' M' w) w w /\ (∀ b, p.L b -> p'.L b) /\ (∀ b, S b -> p'.L b) /\ (∀ b, S b -> ¬ p.L b) /\ ResR (Imm F p' M' w) w qs y S us
 | [], [], p, env, M, y, hp, hs, h => by
  exact ⟨[], p, M, fun _ => False, rfl, hp, Keep.refl _ _, fun b hb => hb, fun b hb => hb.elim, fun b hb => hb.elim, by simp only [ResR]⟩
 | [], _ :: _, p, env, M, y, hp, hs, h => by simp [resL] at h
 | _ :: _, [], p, env, M, y, hp, hs, h => by simp [resL] at h
 | r :: rs, q :: qs, p, env, M, y, hp, hs, h => by
  simp only [resL] at h
  split at h
  ·rename_i v hv
   cases hc : cellV (resG q.1 v) with
   | false => rw [hc] at h; cases h
   | true =>
    rw [hc] at h
    simp only [cond_true] at h
    split at h
    ·rename_i x e M1 ho
     split at h
     ·rename_i z hz
      cases h
      obtain ⟨u, u1, u2⟩ := resV_ok (P := P) (a := a) hB hp hs r v hv
      obtain ⟨vs, g1, g2, g3⟩ := resG_ok hp u2 hc
      obtain ⟨p1, S, t1, t2, t3, t4⟩ := resO_ok hp q.2 (resG q.1 v) vs x e g3 ho
      obtain ⟨us, p2, M2, S2, k1, k2, k3, k4, k5, k6, k7⟩ := resL_ok hB rs qs p1 (evEs env e) M1 z t1.hp (fun t => by rw [gt_evEs]; exact t1.s _ _ (hs t)) hz
      refine ⟨u :: us, p2, M2, fun b => S b ∨ S2 b, ?_, k2, t1.keep.trans k3, fun b hb => k4 b ((t2 b).2 (.inl hb)), fun b hb => hb.elim (fun h => k4 b ((t2 b).2 (.inr h))) (k5 b), fun b hb => hb.elim (t3 b) (fun h hL => k6 b h ((t2 b).2 (.inl hL))), ?_⟩
      ·simp only [List.mapM_cons, Sem.run_bind, u1, Result.andThen_ok, k1, Sem.run_pure]
      ·simp only [ResR]
       exact ⟨u, us, vs, S, S2, rfl, g1, g2, fun b hb => .inl hb, fun b hb => .inr hb, fun b hb hb' => k6 b hb' ((t2 b).2 (.inr hb)), Rel.keep k3 _ _ _ _ (fun _ _ => rfl) t4, k7⟩
     ·cases h
    ·cases h
  ·cases h
theorem idxE_gt : ∀ (l : List V) (i t : Nat), gt (idxE i l) t = if i <= t then (l[t - i]?).getD .any else .any
 | [], i, t => by simp [idxE, gt]
 | x :: r, i, t => by
  simp only [idxE]
  rw [gt_cons]
  by_cases h : i = t
  ·subst h; simp
  ·rw [if_neg h, idxE_gt r (Nat.succ i) t]
   by_cases h1 : Nat.succ i <= t
   ·rw [if_pos h1, if_pos (by omega), show t - i = (t - Nat.succ i) + 1 by omega]; simp
   ·rw [if_neg h1, if_neg (by omega)]
theorem argR_get {A Im : Nat -> Prop} {β : Nat -> Value} {M : Mem} (hA : ∀ b, A b -> Im b) : (gs : List Bool) -> (ts : List T) -> (x : denL ts) -> (us : List Value) -> ArgR A w gs ts x us -> (qs : List TypeId) -> (m : Nat) -> gs = ap (qs.map (fun q => (B.τ q).agg)) (repL false m) -> us.length = gs.length /\ (argV B qs ts x).length = gs.length /\ allP (okL ts x) /\
  ∀ (i : Nat) (v : V) (u : Value), (argV B qs ts x)[i]? = some v -> us[i]? = some u -> RelS β M Im w v u
 | [], [], x, us, h, qs, _, _ => by simp only [ArgR] at h; subst h; exact ⟨rfl, by cases qs <;> rfl, trivial, fun i v u hv => by cases qs <;> simp [argV] at hv⟩
 | [], _ :: _, x, us, h, _, _, _ => by simp [ArgR] at h
 | _ :: _, [], x, us, h, _, _, _ => by simp [ArgR] at h
 | g :: gs, t :: ts, x, us, h, [], m, e => by
  simp only [ArgR] at h
  obtain ⟨u, us', vs, rfl, h1, h2, h3, h4⟩ := h
  cases m with
  | zero => simp [ap, repL] at e
  | succ m =>
   simp only [List.map_nil, ap, repL, List.cons.injEq] at e
   obtain ⟨i1, i2, i3, i4⟩ := argR_get (β := β) (M := M) hA gs ts x.2 us' h4 [] m (by simpa only [List.map_nil, ap] using e.2)
   refine ⟨by simp [i1], by simp [argV, i2], by simp only [okL, allP_ap]; exact ⟨oks_of_ok _ _ (RelF.ok _ _ _ h3), i3⟩, fun i v u' hv hu => ?_⟩
   cases i with
   | zero =>
    simp only [argV, List.getElem?_cons_zero, Option.some.injEq] at hv hu
    subst hv; subst hu
    have r : RelC β M Im w (expl t x.1) vs := expl_rel t x.1 vs (RelF.keep (fun b hb => ⟨hA b hb, rfl⟩) _ _ _ h3)
    have := h2 e.1
    subst this
    exact relS_of_relC r
   | succ i => exact i4 i v u' (by simpa [argV] using hv) (by simpa using hu)
 | g :: gs, t :: ts, x, us, h, q :: qs, m, e => by
  simp only [ArgR] at h
  obtain ⟨u, us', vs, rfl, h1, h2, h3, h4⟩ := h
  simp only [List.map_cons, ap, List.cons.injEq] at e
  obtain ⟨i1, i2, i3, i4⟩ := argR_get (β := β) (M := M) hA gs ts x.2 us' h4 qs m e.2
  refine ⟨by simp [i1], by simp [argV, i2], by simp only [okL, allP_ap]; exact ⟨oks_of_ok _ _ (RelF.ok _ _ _ h3), i3⟩, fun i v u' hv hu => ?_⟩
  cases i with
  | zero =>
   simp only [argV, List.getElem?_cons_zero, Option.some.injEq] at hv hu
   subst hv; subst hu
   have r : RelC β M Im w (expl t x.1) vs := expl_rel t x.1 vs (RelF.keep (fun b hb => ⟨hA b hb, rfl⟩) _ _ _ h3)
   rw [← e.1]
   cases g with
   | true => simp only [aggV, cond_true, RelS]; exact ⟨vs, h1 rfl, r⟩
   | false =>
    have := h2 rfl
    subst this
    simp only [aggV, cond_false]
    exact relS_of_relC r
  | succ i => exact i4 i v u' (by simpa [argV] using hv) (by simpa using hu)
theorem pl_wp (hB : TabOk P B) {f : FuncId} {fn : Func} {c : Code} (hf : P.funcs[f]? = some fn) (hb : fn.body = some c) (hn : (fn.name == "runtime.NumGoroutine") = false) (ct : Ct) (Q : denL ct.args -> denR ct.rt -> Prop)
  (hga : ct.ga = agL B fn) (hfl : orb ct.sh (flatL ct.rt) = true) (hlen : ct.ga.length <= fn.ntmps)
  (h : ∀ x, allP (okL ct.args x) -> allP (ct.pre x) -> ∀ (F : Fr) (p : Ow) (a : Act) (w : World), F.nt = fn.ntmps -> F.fv = (fun _ => none) -> St F p (idxE 0 (argV B (toL fn.params) ct.args x)) [] a w -> c.wp P (lift F (endK B (toL fn.results) ct.rt (Q x))) a w) : ∀ (A : Nat -> Prop) (w : World) (us : List Value) (x : denL ct.args), (∀ b, A b -> b < w.heap.size) -> ArgR A w ct.ga ct.args x us -> allP (ct.pre x) ->
  Calls P f us.toArray w fun e w' => ∃ r rs S, Q x r /\ e = .returned (oneT rs) /\ Ext w w' /\ (∀ b, S b -> w.heap.size <= b /\ b < w'.heap.size) /\
   ResR (fun b => b < w'.heap.size /\ (ct.sh = true /\ A b ∨ w.heap.size <= b) /\ ¬ S b) w' ct.rt r S rs := by
 intro Ab w us x hA hrel hpre
 let F : Fr := ⟨w, w, Ab, fun _ => False, fun _ => False, fn.ntmps, fun _ => none⟩
 let p0 : Ow := ⟨fun _ => undef, fun _ _ => False, fun _ => False⟩
 have himm : ∀ b, Ab b -> Imm F p0 [] w b := fun b hb => ⟨hA b hb, .inl hb, fun h => h, fun k hk => by simp [Live, go] at hk⟩
 obtain ⟨l1, l2, l3, l4⟩ := argR_get (B := B) (β := p0.β) (M := []) himm ct.ga ct.args x us hrel (toL fn.params) fn.nfree hga
 have hst : St F p0 (idxE 0 (argV B (toL fn.params) ct.args x)) [] { tmps := us.toArray ++ Array.replicate (fn.ntmps - us.toArray.size) undef, defers := [] } w := by
  refine ⟨rfl, by simp [F]; omega, fun t v ht => by simp [F] at ht, fun b hb => hb.elim, fun b hb => hb, fun t => ?_, ⟨fun k o hk => by simp [go] at hk, fun k k' b _ hk => by simp [Live, go] at hk, fun k b hk => by simp [Live, go] at hk, fun b hb => hb.elim, rfl, ⟨rfl, Nat.le_refl _⟩, rfl, Nat.le_refl _, fun b _ _ => rfl⟩⟩
  rw [idxE_gt]
  simp only [Nat.zero_le, if_true, Nat.sub_zero]
  cases hx : (argV B (toL fn.params) ct.args x)[t]? with
  | none => simp only [Option.getD_none, RelS]
  | some v =>
   have ht := (List.getElem?_eq_some_iff.1 hx).1
   have hu : us[t]? = some us[t] := List.getElem?_eq_getElem (by omega)
   simp only [Option.getD_some]
   have : (us.toArray ++ Array.replicate (fn.ntmps - us.toArray.size) undef).getD t undef = us[t] := by
    rw [Array.getD_eq_getD_getElem?, Array.getElem?_append_left (by
     have := (List.getElem?_eq_some_iff.1 hu).1
     simpa using this)]
    simp [hu]
   rw [this]
   exact l4 t v _ hx hu
 refine calls_of_wp hf hb (Code.wp_mono (fun e a' w' he => ?_) (h x l3 hpre F p0 _ w rfl rfl hst))
 have key : ∀ p env M, St F p env M a' w' -> endL (resL B env M (toL fn.results) ct.rt) (Q x) -> (e = .normal ∨ e = .ret) -> bodyPost P fn (fun e w' => ∃ r rs S, Q x r /\ e = .returned (oneT rs) /\ Ext w w' /\ (∀ b, S b -> w.heap.size <= b /\ b < w'.heap.size) /\
   ResR (fun b => b < w'.heap.size /\ (ct.sh = true /\ Ab b ∨ w.heap.size <= b) /\ ¬ S b) w' ct.rt r S rs) e a' w' := by
  intro p env M hs hr hee
  unfold endL at hr
  split at hr
  ·rename_i r hres
   obtain ⟨rs, p', M', S, k1, k2, k3, k4, k5, k6, k7⟩ := resL_ok (P := P) (a := a') hB (toL fn.results) ct.rt p env M _ hs.hp hs.slots hres
   rw [toL_eq] at k1
   have hrun : (results fn a'.tmps).run P w' = .ok (oneT rs) w' := by
    rw [results_eq, Array.mapM_eq_mapM_toList]
    simp only [Sem.run_bind, Sem.run_map, k1, Result.andThen_ok, Sem.run_pure]
    match rs with
    | [] => rfl
    | [u] => rfl
    | u :: u' :: r => simp [oneT]
   have hpost : ∃ r' rs' S, Q x r' /\ Ending.returned (oneT rs) = .returned (oneT rs') /\ Ext w w' /\ (∀ b, S b -> w.heap.size <= b /\ b < w'.heap.size) /\ ResR (fun b => b < w'.heap.size /\ (ct.sh = true /\ Ab b ∨ w.heap.size <= b) /\ ¬ S b) w' ct.rt r' S rs' := by
    refine ⟨r, rs, S, hr, rfl, ⟨k2.os, k2.tape, k2.output, k2.size, fun b hb => k2.old b hb (fun h => h)⟩, fun b hb => ⟨(k2.lim b (k5 b hb)).2.1, (k2.lim b (k5 b hb)).1⟩, ?_⟩
    rw [orb_eq, Bool.or_eq_true] at hfl
    rcases hfl with hsh | hfl
    ·refine ResR.keep (fun b hb => ⟨hb.1, ?_, fun hS => hb.2.2.1 (k5 b hS)⟩) _ _ _ _ k7
     rcases hb.2.1 with h1 | h1 | h1
     ·exact .inl ⟨hsh, h1⟩
     ·exact h1.elim
     ·exact .inr h1
    ·exact flat_res _ hfl _ _ _ k7
   rcases hee with rfl | rfl
   ·exact ⟨hs.defers, _, hrun, hpost⟩
   ·exact ⟨hs.defers, _, hrun, hpost⟩
  ·exact hr.elim
 cases e with
 | normal => obtain ⟨p, env, M, h1, h2⟩ := he; exact key p env M h1 h2 (.inl rfl)
 | ret => obtain ⟨p, env, M, h1, h2⟩ := he; exact key p env M h1 h2 (.inr rfl)
 | exit id => obtain ⟨p, env, M, h1, h2⟩ := he; exact h2.elim
 | goto l => obtain ⟨p, env, M, h1, h2⟩ := he; exact h2.elim
 | panic ch => exact he.elim
 | outgrown => exact he.elim
theorem ct_wp (hB : TabOk P B) {f : FuncId} {fn : Func} {c : Code} (hf : P.funcs[f]? = some fn) (hb : fn.body = some c) (hn : (fn.name == "runtime.NumGoroutine") = false) (ct : Ct) (hmu : ct.mu = none)
  (hga : ct.ga = agL B fn) (hfl : orb ct.sh (flatL ct.rt) = true) (hlen : ct.ga.length <= fn.ntmps)
  (h : ∀ x, allP (okL ct.args x) -> allP (ct.pre x) -> ∀ (F : Fr) (p : Ow) (a : Act) (w : World), F.nt = fn.ntmps -> F.fv = (fun _ => none) -> St F p (idxE 0 (argV B (toL fn.params) ct.args x)) [] a w -> c.wp P (lift F (endK B (toL fn.results) ct.rt (fun r => r = ct.res x))) a w) : CtOk P f ct := by
 refine ⟨callable_of hf hb hn, ?_⟩
 simp only [hmu, PlOk]
 intro Ab w us x hA hrel hpre cs
 obtain ⟨e, w', fr, ⟨r, rs, S, hr, h1⟩, h2⟩ := pl_wp hB hf hb hn ct (fun x r => r = ct.res x) hga hfl hlen h Ab w us x hA hrel hpre cs
 subst hr
 exact ⟨e, w', fr, ⟨rs, S, h1⟩, h2⟩
theorem ct_of (hΦ : Good P Φ) (hB : TabOk P B) (hmix : P.follows .mixedOrders = true) {f : FuncId} {fn : Func} {c : Code} (hf : P.funcs[f]? = some fn) (hb : fn.body = some c) (hn : (fn.name == "runtime.NumGoroutine") = false) (ct : Ct) (hmu : ct.mu = none) (A : Ann) (cut : Nat -> Nat)
  (hga : ct.ga = agL B fn) (hfl : orb ct.sh (flatL ct.rt) = true) (hck : okC fn.ntmps cut c = true) (hlen : ct.ga.length <= fn.ntmps)
  (h : ∀ x, allP (okL ct.args x) -> allP (ct.pre x) -> evF B Φ cut fn c A ct x (fun r => r = ct.res x)) : CtOk P f ct :=
 ct_wp hB hf hb hn ct hmu hga hfl hlen fun x h1 h2 F p a w e1 e2 hst => ev_ok hΦ hB hmix cut c F A _ _ _ (by rw [e1]; exact hck) (by rw [e2]; exact free_none c) (h x h1 h2) p a w hst
end
end Go.Bm
/- The typed machine: what comes in, as data. -/
namespace Go.Bm
open Go.RowKit
def typedF (P : Program) (r : TypeId -> T -> Bool) : List Field -> Nat -> T -> Bool
 | [], _, .u => true
 | [f], off, d => allT [Nat.beq f.offset off, Nat.beq (P.cellsOf f.type) d.size, r f.type d]
 | f :: g :: l, off, .p a b => nob (allT [Nat.beq f.offset off, Nat.beq (P.cellsOf f.type) a.size, r f.type a]) (typedF P r (g :: l) (off + a.size) b)
 | _, _, _ => false
def typed (P : Program) : Nat -> TypeId -> T -> Bool
 | 0, _, _ => false
 | n + 1, t, d => match P.underlying t, d with
  | some (.int k), .int k' => kbeq k k'
  | some .bool, .bool => true
  | some .string, .str => true
  | some (.slice e), .sl d => allT [typed P n e d, Nat.beq (P.cellsOf e) d.size, neg (Nat.beq (P.bytesOf e) 0), neg (isZ d.size)]
  | some (.struct fs), d => nob (Nat.beq (P.cellsOf t) d.size) (typedF P (typed P n) fs.toList 0 d)
  | _, _ => false
section
variable {H : Type} {enc : TypeId × Value -> H} {P : Program} {w : World} {base : Nat} {spare : Nat -> Bool} {held : Bool}
theorem open_F {Im : Nat -> Prop} {r : TypeId -> T -> Bool} {cs : List Value} : (l : List Field) -> (off : Nat) -> (d : T) -> typedF P r l off d = true -> (cs.drop off).length = d.size ->
  (∀ f ∈ l, ∀ d', r f.type d' = true -> ∃ y, RelF Im w d' y ((cs.drop f.offset).take (P.cellsOf f.type))) -> ∃ y, RelF Im w d y (cs.drop off)
 | [], off, .u, _, hl, _ => ⟨(), by simp only [RelF]; exact List.eq_nil_of_length_eq_zero hl⟩
 | [f], off, d, h, hl, hf => by
  have h' : allT [Nat.beq f.offset off, Nat.beq (P.cellsOf f.type) d.size, r f.type d] = true := by cases d <;> simpa only [typedF] using h
  simp only [allT_cons, allT_nil, Bool.and_true, Bool.and_eq_true] at h'
  obtain ⟨y, hy⟩ := hf f (by simp) d h'.2.2
  have e1 := Nat.eq_of_beq_eq_true h'.1
  have e2 := Nat.eq_of_beq_eq_true h'.2.1
  rw [e1, e2, List.take_of_length_le (by omega)] at hy
  exact ⟨y, hy⟩
 | f :: g :: l, off, .p a b, h, hl, hf => by
  simp only [typedF, nob_eq, Bool.and_eq_true, allT_cons, allT_nil, Bool.and_true] at h
  obtain ⟨⟨h1, h2, h3⟩, h4⟩ := h
  have e1 := Nat.eq_of_beq_eq_true h1
  have e2 := Nat.eq_of_beq_eq_true h2
  obtain ⟨y, hy⟩ := hf f (by simp) a h3
  simp only [T.size, addN_eq] at hl
  obtain ⟨z, hz⟩ := open_F (g :: l) (off + a.size) b h4 (by rw [List.length_drop] at hl ⊢; omega) (fun f' hf' => hf f' (by simp [List.mem_cons] at hf' ⊢; exact .inr hf'))
  rw [e1, e2] at hy
  refine ⟨(y, z), ?_⟩
  simp only [RelF]
  refine ⟨_, _, ?_, hy, hz⟩
  rw [← List.drop_drop, List.take_append_drop]
 | [], _, .int _, h, _, _ => by simp [typedF] at h
 | [], _, .bool, h, _, _ => by simp [typedF] at h
 | [], _, .str, h, _, _ => by simp [typedF] at h
 | [], _, .p _ _, h, _, _ => by simp [typedF] at h
 | [], _, .sl _, h, _, _ => by simp [typedF] at h
 | [], _, .pt _, h, _, _ => by simp [typedF] at h
 | [], _, .fn _ _, h, _, _ => by simp [typedF] at h
 | [], _, .any, h, _, _ => by simp [typedF] at h
 | _ :: _ :: _, _, .int _, h, _, _ => by simp [typedF] at h
 | _ :: _ :: _, _, .bool, h, _, _ => by simp [typedF] at h
 | _ :: _ :: _, _, .str, h, _, _ => by simp [typedF] at h
 | _ :: _ :: _, _, .u, h, _, _ => by simp [typedF] at h
 | _ :: _ :: _, _, .sl _, h, _, _ => by simp [typedF] at h
 | _ :: _ :: _, _, .pt _, h, _, _ => by simp [typedF] at h
 | _ :: _ :: _, _, .fn _ _, h, _, _ => by simp [typedF] at h
 | _ :: _ :: _, _, .any, h, _, _ => by simp [typedF] at h
theorem weights_all {e : TypeId} : ∀ (l : List (DataW H)) (q : Nat -> Bool), (DataW.weightsAll P e l).all q = true -> ∀ d ∈ l, (d.weights P e).all q = true
 | [], q, _, d, hd => by cases hd
 | x :: l, q, h, d, hd => by
  simp only [DataW.weightsAll, List.all_append, Bool.and_eq_true] at h
  rcases List.mem_cons.1 hd with rfl | hd
  ·exact h.1
  ·exact weights_all l q h.2 d hd
theorem weights_each : ∀ (ts : List TypeId) (l : List (DataW H)) (q : Nat -> Bool), (DataW.weightsEach P ts l).all q = true -> ∀ (i : Nat) t d, ts[i]? = some t -> l[i]? = some d -> (d.weights P t).all q = true
 | [], _, q, _, i, t, d, ht, _ => by simp at ht
 | _ :: _, [], q, _, i, t, d, _, hd => by simp at hd
 | t0 :: ts, x :: l, q, h, i, t, d, ht, hd => by
  simp only [DataW.weightsEach, List.all_append, Bool.and_eq_true] at h
  cases i with
  | zero => simp at ht hd; subst ht; subst hd; exact h.1
  | succ i => exact weights_each ts l q h.2 i t d (by simpa using ht) (by simpa using hd)
theorem open_T : ∀ (n : Nat) (t : TypeId) (d : T), typed P n t d = true -> ∀ (fuel : Nat) (cs : List Value) (x : DataW H × List MemPlace), DataW.trod enc P w base spare held fuel t cs = some x -> (x.1.weights P t).all (· <= reachBytes) = true ->
  ∃ y : d.den, RelF (fun b => b < w.heap.size) w d y cs := by
 intro n
 induction n with
 | zero => intro t d h; simp [typed] at h
 | succ n ih =>
  intro t d h fuel cs x hx hw
  unfold typed at h
  split at h
  ·rename_i k k' hu
   have := kbeq_eq h
   subst this
   obtain ⟨m, rfl, rfl, hwf⟩ := DataW.trod_int hu hx
   exact ⟨m, by simp only [RelF, true_and]; simpa [Lit.wf, inK] using hwf⟩
  ·rename_i hu
   obtain ⟨b, rfl, rfl⟩ := DataW.trod_bool hu hx
   exact ⟨b, by simp only [RelF]⟩
  ·rename_i hu
   obtain ⟨s, rfl, rfl, hs⟩ := DataW.trod_string hu hx
   have hsz : s.size <= reachBytes := by simpa [DataW.weights] using hw
   exact ⟨s, by simp only [RelF, true_and]; exact Nat.le_trans hsz (by decide)⟩
  ·rename_i e d' hu
   simp only [allT_cons, allT_nil, Bool.and_true, Bool.and_eq_true] at h
   obtain ⟨h1, h2, h3, h4⟩ := h
   have e2 := Nat.eq_of_beq_eq_true h2
   rcases DataW.trod_slice hu hx with ⟨rfl, rfl⟩ | ⟨a, len, cap, elems, rest, m, _, rfl, rfl, hb, hl, hm, hlen, hel, _, _⟩
   ·exact ⟨[], by simp only [RelF]; exact ⟨none, 0, rfl, ⟨Nat.zero_le _, Nat.le_refl _⟩, fun _ => ⟨rfl, rfl⟩, fun a ha => by cases ha⟩⟩
   ·have hpos : 0 < d'.size := by
     cases hz : d'.size with
     | zero => rw [hz] at h4; simp [isZ] at h4
     | succ _ => omega
    have hbpos : 0 < P.bytesOf e := by
     cases hz : P.bytesOf e with
     | zero => rw [hz] at h3; simp at h3
     | succ _ => omega
    simp only [DataW.weights, hu, List.all_cons, List.all_append, Bool.and_eq_true, decide_eq_true_eq, List.length_map] at hw
    obtain ⟨w1, w2, w3⟩ := hw
    have hnb : len <= nb := by
     have h5 : elems.length + rest.length <= (elems.length + rest.length) * P.bytesOf e := Nat.le_mul_of_pos_right _ hbpos
     simp only [reachBytes] at w1
     unfold nb; omega
    have hall : ∀ i, i < len -> ∃ y : d'.den, ∃ csi, w.cells? base (a.add (i * d'.size)) d'.size = some csi /\ RelF (fun b => b < w.heap.size) w d' y csi := fun i hi => by
     have hq := hel i hi
     rw [e2] at hq
     have hei : elems[i]? = some elems[i] := List.getElem?_eq_getElem (by omega)
     rw [hei] at hq
     obtain ⟨csi, q1, q2⟩ := Option.bind_eq_some_iff.1 hq
     obtain ⟨y, hy⟩ := ih e d' h1 m csi _ q2 (weights_all _ _ w2 _ (List.mem_map_of_mem (List.getElem_mem (by omega))))
     exact ⟨y, csi, q1, hy⟩
    classical
    let f : Nat -> d'.den := fun i => if hi : i < len then (hall i hi).choose else d'.dflt
    refine ⟨(List.range len).map f, ?_⟩
    have hlen' : ((List.range len).map f).length = len := by simp
    simp only [RelF]
    refine ⟨some a, cap, by rw [hlen'], ⟨by rw [hlen']; exact hnb, by rw [hlen']; exact hl⟩, (fun h => nomatch h), fun a' ha' hp => ?_⟩
    cases ha'
    rw [hlen'] at hp
    obtain ⟨y0, cs0, c1, c2⟩ := hall 0 hp
    obtain ⟨g1, g2, g3⟩ := World.cells?_some c1
    have hc0 := g3 0 hpos
    have hl0 : 0 < cs0.length := by omega
    rw [List.getElem?_eq_getElem hl0] at hc0
    have hadd0 : (a.add (0 * d'.size)).add 0 = a := by rw [Nat.zero_mul]; unfold Addr.add; simp
    rw [hadd0] at hc0
    have hspot : a.spot = none := by
     unfold World.cell? at hc0
     split at hc0
     ·split at hc0
      ·cases hc0
      ·rename_i hs; simpa using hs
     ·cases hc0
    have hblk : a.block < w.heap.size := by
     unfold World.cell? at hc0
     split at hc0
     ·rename_i hb; exact (Array.getElem?_eq_some_iff.1 hb).1
     ·cases hc0
    refine ⟨hspot, hblk, fun i y hy => ?_⟩
    rw [List.getElem?_map] at hy
    by_cases hi : i < len
    ·rw [List.getElem?_range hi] at hy
     simp only [Option.map_some, Option.some.injEq] at hy
     have hf : f i = (hall i hi).choose := by simp only [f, dif_pos hi]
     rw [hf] at hy
     obtain ⟨csi, q1, q2⟩ := (hall i hi).choose_spec
     rw [hy] at q2
     obtain ⟨r1, r2, r3⟩ := World.cells?_some q1
     refine ⟨csi, fun j u hu' => ?_, q2⟩
     have hj : j < d'.size := by have := (List.getElem?_eq_some_iff.1 hu').1; omega
     have := r3 j hj
     obtain ⟨b, o, sp⟩ := a
     simp only at hspot
     subst hspot
     rw [Addr.add_lit, Addr.add_lit] at this
     rw [this]; exact hu'
    ·rw [List.getElem?_eq_none (by simpa using hi)] at hy; cases hy
  ·rename_i _ fs hu
   simp only [nob_eq, Bool.and_eq_true] at h
   have e1 := Nat.eq_of_beq_eq_true h.1
   obtain ⟨xs, m, _, rfl, hl, hxl, hf⟩ := DataW.trod_struct hu hx
   simp only [DataW.weights, hu] at hw
   have := open_F (w := w) (Im := fun b => b < w.heap.size) (cs := cs) fs.toList 0 _ h.2 (by simp only [List.drop_zero]; omega) (fun f hfm d' hd' => by
    obtain ⟨i, hi, rfl⟩ := List.getElem_of_mem hfm
    have hfi : fs[i]? = some fs[i] := by simp at hi; simp [hi]
    have hq := hf i _ hfi
    have hi' : i < xs.length := by simp at hi; omega
    rw [List.getElem?_eq_getElem hi'] at hq
    have hww := weights_each _ _ _ hw i fs[i].type xs[i].1 (by simp at hi; simp [hi]) (by simp [hi'])
    simpa using ih _ d' (by simpa using hd') m _ _ hq hww)
   simpa only [List.drop_zero] using this
  ·cases h
end
end Go.Bm
/- The typed machine: what a statement asks of a law. -/
namespace Go.Bm
open Go.RowKit
def lawCt (args : List T) (ga : List Bool) : Ct := ⟨args, ga, fun _ => [], [(false, .fz .bool)], fun _ => (true, ()), false, none⟩
theorem law_of_ct {P : Program} {f : FuncId} {args : List T} {ga : List Bool} (h : CtOk P f (lawCt args ga)) {vs : List Value} {w : World} {x : denL args} (hr : ArgR (fun b => b < w.heap.size) w ga args x vs) :
  Calls P f vs.toArray w fun e w' => e = .returned (.bool true) /\ Below w.heap.size w w' :=
 (h.2 (fun b => b < w.heap.size) w vs x (fun _ hb => hb) hr trivial).mono fun e w' ⟨rs, S, he, hx, _, hres⟩ => by
  simp only [lawCt, ResR] at hres
  obtain ⟨u, us', us, S1, S2, rfl, _, g2, _, _, _, hrel, rfl⟩ := hres
  have := g2 trivial
  subst this
  simp only [Rel, RelF, List.cons.injEq, and_true] at hrel
  subst hrel
  exact ⟨he, hx.os, hx.tape.t, hx.output, hx.size, fun k hk => hx.old k hk⟩
end Go.Bm
/- The typed machine: what a function's law is made of: loops, tables of contracts, measures of data. -/
namespace Go.Bm
open Go.RowKit
def bodyOf (f : Func) : Code := match f.body with | some c => c | none => .skip
def lkp : List (Nat × Ct) -> FuncId -> Option Ct
 | [], _ => none
 | (k, c) :: r, f => bif Nat.beq k f then some c else lkp r f
theorem good_nil {P : Program} : Good P (lkp []) := fun f ct h => by cases h
theorem good_cons {P : Program} {k : Nat} {c : Ct} {r : List (Nat × Ct)} (h : CtOk P k c) (hr : Good P (lkp r)) : Good P (lkp ((k, c) :: r)) := by
 intro f ct hf
 simp only [lkp] at hf
 cases hb : Nat.beq k f with
 | true =>
  rw [hb] at hf
  have := Nat.eq_of_beq_eq_true hb
  subst this
  cases hf
  exact h
 | false => rw [hb] at hf; exact hr f ct hf
def cutL : List (Nat × Nat) -> Nat -> Nat
 | [], _ => 0
 | (k, c) :: r, f => bif Nat.beq k f then c else cutL r f
theorem loop_of {S : Type} {body : S -> (S -> Prop) -> Prop} (R : S -> Prop) (μ : S -> Nat)
  (h : ∀ s next, R s -> (∀ s', R s' -> μ s' < μ s -> next s') -> body s next) {s : S} (hs : R s) : loopW body s := by
 have key : ∀ n s, R s -> μ s < n -> iterW body n s := by
  intro n
  induction n with
  | zero => intro s _ h; omega
  | succ n ih => intro s hs hn; exact h s _ hs fun s' hs' hl => ih s' hs' (by omega)
 exact ⟨μ s + 1, key _ s hs (Nat.lt_succ_self _)⟩
theorem loop_ix {n i0 : Int} {body : (Int × Unit) × Unit -> ((Int × Unit) × Unit -> Prop) -> Prop} (P : Int -> Prop) (hn : i0 <= n) (h0 : P i0)
  (hs : ∀ i next, i0 <= i -> i < n -> P i -> (P (i + 1) -> next ((i + 1, ()), ())) -> body ((i, ()), ()) next) (he : ∀ next, P n -> body ((n, ()), ()) next) : loopW body ((i0, ()), ()) := by
 refine loop_of (fun s => i0 <= s.1.1 /\ s.1.1 <= n /\ P s.1.1) (fun s => (n - s.1.1).toNat) ?_ ⟨Int.le_refl _, hn, h0⟩
 rintro ⟨⟨i, _⟩, _⟩ next ⟨h1, h2, h3⟩ hnx
 dsimp only at h1 h2 h3 hnx
 by_cases e : i = n
 ·subst e; exact he next h3
 ·exact hs i next h1 (by omega) h3 fun h4 => hnx _ ⟨by dsimp only; omega, by dsimp only; omega, h4⟩ (by dsimp only; omega)
theorem drop_c {α : Type} (l : List α) (d : α) {i : Int} (h0 : 0 <= i) (h1 : i < l.length) : l.drop i.toNat = l.getD i.toNat d :: l.drop (i + 1).toNat := by
 have h : i.toNat < l.length := by omega
 rw [List.drop_eq_getElem_cons h, show (i + 1).toNat = i.toNat + 1 from by omega, List.getD_eq_getElem?_getD, List.getElem?_eq_getElem h]
 rfl
theorem drop_n {α : Type} (l : List α) {i : Int} (h1 : (l.length : Int) <= i) : l.drop i.toNat = [] := List.drop_eq_nil_of_le (by omega)
theorem take_c {α : Type} (l : List α) (d : α) {i : Int} (h0 : 0 <= i) (h1 : i < l.length) : l.take (i + 1).toNat = l.take i.toNat ++ [l.getD i.toNat d] := by
 have h : i.toNat < l.length := by omega
 rw [show (i + 1).toNat = i.toNat + 1 from by omega, List.take_succ_eq_append_getElem h, List.getD_eq_getElem?_getD, List.getElem?_eq_getElem h]
 rfl
theorem take_n {α : Type} (l : List α) {i : Int} (h1 : (l.length : Int) <= i) : l.take i.toNat = l := List.take_of_length_le (by omega)
theorem take_set {α : Type} (l : List α) {i : Int} (h0 : 0 <= i) (h1 : i < l.length) (x : α) : (l.set i.toNat x).take (i + 1).toNat = l.take i.toNat ++ [x] := by
 have h : i.toNat < l.length := by omega
 rw [show (i + 1).toNat = i.toNat + 1 from by omega, List.take_succ_eq_append_getElem (by simpa using h)]
 rw [List.take_set_of_le (by omega)]; simp
theorem getD_mem {α : Type} (l : List α) (d : α) {i : Int} (h0 : 0 <= i) (h1 : i < l.length) : l.getD i.toNat d ∈ l := by
 have h : i.toNat < l.length := by omega
 rw [List.getD_eq_getElem?_getD, List.getElem?_eq_getElem h]
 exact List.getElem_mem h
theorem inK64 {n : Int} : inK .i64 n ↔ -9223372036854775808 <= n /\ n <= 9223372036854775807 := by
 simp [inK, IntKind.min, IntKind.max, IntKind.signed, IntKind.bits]
theorem nb_eq : nb = 140737488355328 := rfl
theorem cnd_of {b : Bool} {x y : Prop} (h1 : b = true -> x) (h2 : b = false -> y) : cnd b x y := ⟨h1, h2⟩
theorem cnd_d {p : Prop} [Decidable p] {x y : Prop} (h1 : p -> x) (h2 : ¬ p -> y) : cnd (decide p) x y := ⟨fun h => h1 (of_decide_eq_true h), fun h => h2 (of_decide_eq_false h)⟩
theorem join_of {S : Type} {k : S -> Prop} {f : (S -> Prop) -> Prop} (R : S -> Prop) (hk : ∀ s, R s -> k s) (hf : ∀ k', (∀ s, R s -> k' s) -> f k') : joinW k f := hf k hk
theorem ct_by {P : Program} {B : Tab} {Φ : FuncId -> Option Ct} (hΦ : Good P Φ) (hB : TabOk P B) (hmix : P.follows .mixedOrders = true) {f : FuncId} {fn : Func} {c : Code} (hf : P.funcs[f]? = some fn) (hb : fn.body = some c) (hn : (fn.name == "runtime.NumGoroutine") = false) (ct : Ct) (hmu : ct.mu = none) (A : Ann) (cut : Nat -> Nat)
  (hga : ct.ga = agL B fn) (hfl : orb ct.sh (flatL ct.rt) = true) (hck : okC fn.ntmps cut c = true) (hlen : ct.ga.length <= fn.ntmps)
  (W : denL ct.args -> (denR ct.rt -> Prop) -> Prop) (hw : ∀ x K, evF B Φ cut fn c A ct x K = W x K) (hm : ∀ x, allP (okL ct.args x) -> allP (ct.pre x) -> W x (fun r => r = ct.res x)) : CtOk P f ct :=
 ct_of hΦ hB hmix hf hb hn ct hmu A cut hga hfl hck hlen fun x h1 h2 => (hw x _).mpr (hm x h1 h2)
def wR : (t : T) -> t.den -> Nat
 | .int _, _ => 0
 | .bool, _ => 0
 | .str, s => s.size
 | .u, _ => 0
 | .p a b, x => wR a x.1 + wR b x.2
 | .sl e, l => l.length + (l.map (wR e)).sum
 | .pt t, x => wR t x
 | .fn _ t, x => wR t x
 | .ifc _ t, x => wR t x
 | .mp _ _, _ => 0
 | .op _, _ => 0
 | .ns _, _ => 0
 | .any, _ => 0
theorem wR_sl {e : T} (l : List e.den) : wR (.sl e) l = l.length + (l.map (wR e)).sum := rfl
theorem wR_p {a b : T} (x : a.den × b.den) : wR (.p a b) x = wR a x.1 + wR b x.2 := rfl
theorem wR_int {k : IntKind} (x : Int) : wR (.int k) x = 0 := rfl
theorem wR_bool (x : Bool) : wR .bool x = 0 := rfl
theorem wR_mem {e : T} {l : List e.den} {x : e.den} (h : x ∈ l) : wR e x <= (l.map (wR e)).sum := by
 induction l with
 | nil => cases h
 | cons y l ih =>
  simp only [List.map_cons, List.sum_cons]
  cases h with
  | head => omega
  | tail _ h => have := ih h; omega
theorem sum_wint {k : IntKind} (l : List Int) : (l.map (wR (.int k))).sum = 0 := by
 induction l with
 | nil => rfl
 | cons x l ih => rw [List.map_cons, List.sum_cons, ih]; rfl
theorem wR_ints {k : IntKind} (l : List Int) : wR (.sl (.int k)) l = l.length := by rw [wR, sum_wint]; rfl
def szR (n : Nat) (left : Int) : Int := if left < n then -1 else left - n
theorem szR_neg {n : Nat} {l : Int} : szR n l < 0 ↔ l < n := by unfold szR; split <;> omega
theorem szR_lt {x r : Nat} {l : Int} (h : l < x) : szR (x + r) l = -1 := by unfold szR; rw [if_pos (by omega)]
theorem szR_ge {x r : Nat} {l : Int} (h : ¬ l < x) : szR (x + r) l = szR r (szR x l) := by unfold szR; rw [if_neg h]; split <;> split <;> omega
theorem szR_val {x : Nat} {l : Int} (h : ¬ l < x) : szR x l = l - x := by unfold szR; rw [if_neg h]
theorem szR_zero {l : Int} (h : 0 <= l) : szR 0 l = l := by unfold szR; split <;> omega
theorem eqR_p {a b : T} (x y : a.den × b.den) : eqR (.p a b) x y = (eqR a x.1 y.1 && eqR b x.2 y.2) := by
 rw [Bool.eq_iff_iff]
 simp only [eqR_iff, Bool.and_eq_true]
 exact Prod.ext_iff
theorem eqR_int {k : IntKind} (x y : Int) : eqR (.int k) x y = (x == y) := by
 rw [Bool.eq_iff_iff]; simp only [eqR_iff, beq_iff_eq]
theorem eqR_bool (x y : Bool) : eqR .bool x y = (x == y) := by
 rw [Bool.eq_iff_iff]; simp only [eqR_iff, beq_iff_eq]
end Go.Bm
/- The typed machine: an argument of a law, as it comes in. -/
namespace Go.Bm
open Go.RowKit Go.WideShapes
def aggB (P : Program) (t : TypeId) : Bool := match P.underlying t with | some (.struct _) => true | _ => false
theorem open_arg {H : Type} {enc : TypeId × Value -> H} {P : Program} {W : World} {base b1 : Nat} {spare : Nat -> Bool} {held : Bool} {t : TypeId} {v : Value} {dd : DataW H} {ps : List MemPlace} (n : Nat) (d : T) (g : Bool)
  (hty : typed P n t d = true) (hg : aggB P t = g) (hv : Value.okWide P W .any b1 t v) (hk : DataW.Trod enc P W base spare held t v dd ps) (hw : (dd.weights P t).all (· <= reachBytes) = true) :
  ∃ (y : d.den) (vs : List Value), (g = true -> v = .agg vs.toArray) /\ (g = false -> vs = [v]) /\ RelF (fun b => b < W.heap.size) W d y vs := by
 obtain ⟨fuel, hf⟩ := hk
 obtain ⟨y, hy⟩ := open_T n t d hty fuel _ _ hf hw
 refine ⟨y, v.cells.toList, fun h => ?_, fun h => ?_, hy⟩
 ·subst hg
  simp only [aggB] at h
  split at h
  ·rename_i fs hu
   obtain ⟨cs, rfl, _⟩ := okWide_struct hu hv
   simp [Value.cells]
  ·cases h
 ·subst hg
  cases n with
  | zero => simp [typed] at hty
  | succ n =>
   unfold typed at hty
   split at hty
   ·rename_i k k' hu; obtain ⟨m, rfl⟩ := okWide_int hu hv; rfl
   ·rename_i hu; obtain ⟨m, rfl⟩ := okWide_bool hu hv; rfl
   ·rename_i hu; obtain ⟨m, rfl⟩ := okWide_string hu hv; rfl
   ·rename_i e d' hu; obtain ⟨a, l, c, rfl⟩ := okWide_slice hu hv; rfl
   ·rename_i fs hu; simp [aggB, hu] at h
   ·cases hty
end Go.Bm
/- The typed machine: a function that writes what it is handed. -/
namespace Go.Bm
open Go.RowKit
def mtCt (m : Mt) : Ct := ⟨[], [], fun _ => [], [], fun _ => (), false, some (.m m)⟩
def asI : V -> Option Int
 | .d t y => castT (a := t) (.int .i64) y
 | _ => none
def endMv (B : Tab) (rs : List ResultVar) (m : Mt) (K : m.o.strip.den -> Int -> Prop) (env : Env) (M : Mem) : Prop :=
 match rs with
 | [r] => bif nodupN (vkeys (gt env 0).cells) then (match resV B env M r with
  | some v => (match asI v, gath M m.o (gt env 0).cells with
   | some n, some x => K x n
   | _, _ => False)
  | none => False) else False
 | _ => False
def endM (B : Tab) (rs : List ResultVar) (m : Mt) (K : m.o.strip.den -> Int -> Prop) : Ex -> Env -> Mem -> Prop
 | .ex _, _, _ => False
 | .go _, _, _ => False
 | .nm, env, M => endMv B rs m K env M
 | .rt, env, M => endMv B rs m K env M
def evFm (B : Tab) (Φ : FuncId -> Option Ct) (cut : Nat -> Nat) (fn : Func) (c : Code) (A : Ann) (m : Mt) (x : m.o.strip.den) (k : Int) (K : m.o.strip.den -> Int -> Prop) : Prop :=
 match newO 9000 0 m.o x with
 | (v, N, _) => ev B Φ cut c A (endM B (toL fn.results) m K) (idxE 0 [aggV m.g v, .d (.int .i64) k]) N
def noPt : O -> Bool
 | .fz _ => true
 | .p a b => nob (noPt a) (noPt b)
 | .sl _ => true
 | .pt _ => false
 | .mp _ _ => false
 | .op _ => false
section
variable {w : World}
structure Inn (w : World) (j j' : Nat) (N : Mem) (v : V) (vs : List Value) (S : Nat -> Prop) (β : Nat -> Value) (σ : Nat -> Nat -> Prop) : Prop where
 le : j <= j'
 keys : ∀ k, Live N k -> ∃ i, j <= i /\ i < j' /\ k = cid 9000 i
 objs : ∀ (Im : Nat -> Prop) k ob, go N k = some ob -> Rel Im w ob.o ob.x (σ k) [β k]
 sub : ∀ k b, Live N k -> σ k b -> S b
 dis : ∀ k k' b, k ≠ k' -> Live N k -> Live N k' -> σ k b -> ¬ σ k' b
 val : ∀ (Im : Nat -> Prop) (β' : Nat -> Value) (M' : Mem), (∀ k, Live N k -> β' k = β k /\ go M' k = go N k) -> RelC β' M' Im w v vs
theorem inn_of : (o : O) -> noPt o = true -> o.flat = true -> (j : Nat) -> (x : o.strip.den) -> (S : Nat -> Prop) -> (vs : List Value) -> Rel (fun _ => False) w o x S vs ->
  ∃ β σ, Inn w j (newO 9000 j o x).2.2 (newO 9000 j o x).2.1 (newO 9000 j o x).1 vs S β σ
 | .fz t, _, hf, j, x, S, vs, r => by
  simp only [Rel] at r
  simp only [O.flat] at hf
  refine ⟨fun _ => undef, fun _ _ => False, Nat.le_refl _, fun k hk => ?_, fun Im k ob hk => ?_, fun k b _ h => h.elim, fun k k' b _ _ _ h => h.elim, fun Im β' M' _ => ?_⟩
  ·simp [newO, Live, go] at hk
  ·simp [newO, go] at hk
  ·simp only [newO]; exact expl_rel t x vs (flat_relF t hf x vs r)
 | .sl e, _, hf, j, x, S, vs, r => by
  have r0 := r
  simp only [Rel] at r0
  obtain ⟨v, ety, xs, T, rfl, _⟩ := r0
  refine ⟨fun _ => v, fun _ => S, Nat.le_succ _, fun k hk => ⟨j, Nat.le_refl _, Nat.lt_succ_self _, ?_⟩, fun Im k ob hk => ?_, fun k b _ h => h, fun k k' b hne hk hk' => ?_, fun Im β' M' h => ?_⟩
  ·simp only [newO, Live, go_cons] at hk
   split at hk
   ·rename_i h; exact h.symm
   ·simp [go] at hk
  ·simp only [newO, go_cons] at hk
   split at hk
   ·cases hk; exact flat_rel _ hf _ _ _ r
   ·simp [go] at hk
  ·exfalso
   have one : ∀ k, Live (newO 9000 j (.sl e) x).2.1 k -> k = cid 9000 j := fun k hk => by
    simp only [newO, Live, go_cons] at hk
    split at hk
    ·rename_i h; exact h.symm
    ·simp [go] at hk
   exact hne ((one k hk).trans (one k' hk').symm)
  ·have hl : Live (newO 9000 j (.sl e) x).2.1 (cid 9000 j) := by simp [newO, Live, go_cons]
   obtain ⟨h1, h2⟩ := h _ hl
   simp only [newO, RelC]
   have hg : go M' (cid 9000 j) = some (⟨.sl e, x⟩ : Ob) := by rw [h2]; simp only [newO, go_cons, if_true]
   refine ⟨_, none, hg, by simp only [gok], ⟨⟨.sl e, x⟩, by simp only [get]⟩, by simp only [res, h1]⟩
 | .pt _, h, _, _, _, _, _, _ => by cases h
 | .mp _ _, h, _, _, _, _, _, _ => by cases h
 | .op _, h, _, _, _, _, _, _ => by cases h
 | .p a b, h, hf, j, x, S, vs, r => by
  simp only [O.flat, nob_eq, Bool.and_eq_true] at hf
  simp only [noPt, nob_eq, Bool.and_eq_true] at h
  simp only [Rel] at r
  obtain ⟨va, vb, S1, S2, rfl, s1, s2, s3, ra, rb⟩ := r
  obtain ⟨βa, σa, A⟩ := inn_of a h.1 hf.1 j x.1 S1 va ra
  obtain ⟨βb, σb, B⟩ := inn_of b h.2 hf.2 (newO 9000 j a x.1).2.2 x.2 S2 vb rb
  simp only [newO]
  generalize newO 9000 j a x.1 = q1 at A B ⊢
  obtain ⟨v1, N1, j1⟩ := q1
  simp only at A B ⊢
  generalize newO 9000 j1 b x.2 = q2 at B ⊢
  obtain ⟨v2, N2, j2⟩ := q2
  simp only at B ⊢
  have hne : ∀ k, Live N1 k -> ¬ Live N2 k := fun k h1 h2 => by
   obtain ⟨i, _, i2, i3⟩ := A.keys k h1
   obtain ⟨i', i1', _, i3'⟩ := B.keys k h2
   have := cid_inj (i3.symm.trans i3')
   omega
  have hgo : ∀ k, go (ap N2 N1) k = match go N2 k with | some ob => some ob | none => go N1 k := fun k => by
   exact go_ap N2 N1 k
  have hlv : ∀ k, Live (ap N2 N1) k -> Live N1 k /\ go (ap N2 N1) k = go N1 k ∨ Live N2 k /\ go (ap N2 N1) k = go N2 k := fun k hk => by
   have := hgo k
   cases h2 : go N2 k with
   | some ob => rw [h2] at this; exact .inr ⟨go_live h2, this⟩
   | none => rw [h2] at this; simp only at this; exact .inl ⟨by unfold Live at hk ⊢; rw [← this]; exact hk, this⟩
  have h1l : ∀ k, Live N1 k -> Live (ap N2 N1) k /\ go (ap N2 N1) k = go N1 k := fun k hk => by
   have := hgo k
   cases h2 : go N2 k with
   | some ob => exact (hne k hk (go_live h2)).elim
   | none => rw [h2] at this; simp only at this; exact ⟨by unfold Live; rw [this]; exact hk, this⟩
  have h2l : ∀ k, Live N2 k -> Live (ap N2 N1) k /\ go (ap N2 N1) k = go N2 k := fun k hk => by
   have := hgo k
   obtain ⟨ob, hob⟩ := live_go hk
   rw [hob] at this ⊢
   exact ⟨go_live this, this⟩
  obtain ⟨β, σ, e1, e2⟩ : ∃ (β : Nat -> Value) (σ : Nat -> Nat -> Prop), (∀ k, Live N1 k -> β k = βa k /\ σ k = σa k) /\ (∀ k, Live N2 k -> β k = βb k /\ σ k = σb k) := by
   classical
   exact ⟨fun k => if Live N1 k then βa k else βb k, fun k => if Live N1 k then σa k else σb k, fun k hk => by simp [hk], fun k hk => by
    have : ¬ Live N1 k := fun h => hne k h hk
    simp [this]⟩
  refine ⟨β, σ, Nat.le_trans A.le B.le, fun k hk => ?_, fun Im k ob hk => ?_, fun k b hk hs => ?_, fun k k' b hne' hk hk' hs => ?_, fun Im β' M' hv => ?_⟩
  ·rcases hlv k hk with ⟨h, _⟩ | ⟨h, _⟩
   ·obtain ⟨i, i1, i2, i3⟩ := A.keys k h; exact ⟨i, i1, Nat.lt_of_lt_of_le i2 B.le, i3⟩
   ·obtain ⟨i, i1, i2, i3⟩ := B.keys k h; exact ⟨i, Nat.le_trans A.le i1, i2, i3⟩
  ·rcases hlv k (go_live hk) with ⟨h, he⟩ | ⟨h, he⟩
   ·rw [(e1 k h).1, (e1 k h).2]; exact A.objs Im k ob (by rw [← he]; exact hk)
   ·rw [(e2 k h).1, (e2 k h).2]; exact B.objs Im k ob (by rw [← he]; exact hk)
  ·rcases hlv k hk with ⟨h, _⟩ | ⟨h, _⟩
   ·rw [(e1 k h).2] at hs; exact s1 b (A.sub k b h hs)
   ·rw [(e2 k h).2] at hs; exact s2 b (B.sub k b h hs)
  ·rcases hlv k hk with ⟨h, _⟩ | ⟨h, _⟩
   ·rw [(e1 k h).2] at hs
    rcases hlv k' hk' with ⟨h', _⟩ | ⟨h', _⟩
    ·rw [(e1 k' h').2]; exact A.dis k k' b hne' h h' hs
    ·rw [(e2 k' h').2]; exact fun hs' => s3 b (A.sub k b h hs) (B.sub k' b h' hs')
   ·rw [(e2 k h).2] at hs
    rcases hlv k' hk' with ⟨h', _⟩ | ⟨h', _⟩
    ·rw [(e1 k' h').2]; exact fun hs' => s3 b (A.sub k' b h' hs') (B.sub k b h hs)
    ·rw [(e2 k' h').2]; exact B.dis k k' b hne' h h' hs
  ·simp only [RelC]
   exact ⟨va, vb, rfl, A.val Im β' M' (fun k hk => by rw [(hv k (h1l k hk).1).1, (hv k (h1l k hk).1).2, (e1 k hk).1, (h1l k hk).2]; exact ⟨rfl, rfl⟩), B.val Im β' M' (fun k hk => by rw [(hv k (h2l k hk).1).1, (hv k (h2l k hk).1).2, (e2 k hk).1, (h2l k hk).2]; exact ⟨rfl, rfl⟩)⟩
theorem gath_cellV {M : Mem} {o : O} {v : V} {x : o.strip.den} (h : gath M o v.cells = some x) : cellV v = true := by
 cases v with
 | any => cases o with
  | fz t => exact as_cellV (v := .any) (by simpa [gath, V.cells] using h)
  | _ => simp [gath, V.cells] at h
 | tup y => cases o with
  | fz t => exact as_cellV (v := .tup y) (by simpa [gath, V.cells] using h)
  | _ => simp [gath, V.cells] at h
 | gd a b c y => cases o with
  | fz t => exact as_cellV (v := .gd a b c y) (by simpa [gath, V.cells] using h)
  | _ => simp [gath, V.cells] at h
 | ifc a y => cases o with
  | fz t => exact as_cellV (v := .ifc a y) (by simpa [gath, V.cells] using h)
  | _ => simp [gath, V.cells] at h
 | _ => rfl
variable {P : Program} {B : Tab} {Φ : FuncId -> Option Ct}
theorem mt_of (hΦ : Good P Φ) (hB : TabOk P B) (hmix : P.follows .mixedOrders = true) {f : FuncId} {fn : Func} {c : Code} (hf : P.funcs[f]? = some fn) (hb : fn.body = some c) (hn : (fn.name == "runtime.NumGoroutine") = false) (m : Mt) (A : Ann) (cut : Nat -> Nat)
  (hfl : m.o.flat = true) (hnp : noPt m.o = true) (hck : okC fn.ntmps cut c = true) (hlen : 2 <= fn.ntmps) (hnw : noW [0] c = true)
  (h : ∀ x k, inK .i64 k -> allP (m.o.strip.oks x) -> allP (m.pre x k) -> evFm B Φ cut fn c A m x k (fun y n => y = (m.res x k).1 /\ n = (m.res x k).2)) : CtOk P f (mtCt m) := by
 refine ⟨callable_of hf hb hn, hfl, fun w u vs x k S hg1 hg2 hr hS hk hpre => ?_⟩
 let a0 : Act := { tmps := #[u, .int .i64 k] ++ Array.replicate (fn.ntmps - (#[u, .int .i64 k] : Array Value).size) undef, defers := [] }
 have hoks : allP (m.o.strip.oks x) := by
  have := Rel.frz (Im' := fun _ => True) (fun _ h => h.elim) m.o x S vs (fun _ _ => trivial) hr
  exact oks_of_ok _ _ (RelF.ok _ _ _ this)
 have he := h x k hk hoks hpre
 unfold evFm at he
 let F : Fr := ⟨w, w, fun _ => False, S, fun _ => False, fn.ntmps, mkFv (fun _ => none) [0] a0⟩
 obtain ⟨β, σ, I⟩ := inn_of m.o hnp hfl 0 x S vs hr
 generalize hq : newO 9000 0 m.o x = q at he I
 obtain ⟨v0, N, j'⟩ := q
 simp only at he I
 let p0 : Ow := ⟨β, σ, fun _ => False⟩
 have hsz : a0.tmps.size = fn.ntmps := by simp [a0]; omega
 have ht0 : a0.tmps.getD 0 undef = u := by simp [a0, Array.getD_eq_getD_getElem?, Array.getElem?_append]
 have ht1 : a0.tmps.getD 1 undef = .int .i64 k := by simp [a0, Array.getD_eq_getD_getElem?, Array.getElem?_append]
 have hp0 : Hp F p0 N w := ⟨fun k ob hk => I.objs _ k ob hk, fun k k' b hne hk hk' => I.dis k k' b hne hk hk', fun k b hk hs => ⟨hS b (I.sub k b hk hs), .inl ⟨by obtain ⟨i, _, _, e⟩ := I.keys k hk; rw [e]; unfold cid gid; exact Nat.le_add_right _ _, I.sub k b hk hs⟩⟩, fun b hb => hb.elim, rfl, ⟨rfl, Nat.le_refl _⟩, rfl, Nat.le_refl _, fun b _ _ => rfl⟩
 have hst : St F p0 (idxE 0 [aggV m.g v0, .d (.int .i64) k]) N a0 w := by
  refine ⟨rfl, hsz, fun t v ht => ?_, fun b hb => hb.elim, fun b hb => hb, fun t => ?_, hp0⟩
  ·simp only [F, mkFv] at ht
   cases hm : memN t [0] with
   | true => rw [hm] at ht; simpa using ht
   | false => rw [hm] at ht; cases ht
  ·rw [idxE_gt]
   simp only [Nat.zero_le, if_true, Nat.sub_zero]
   match t with
   | 0 =>
    rw [ht0]
    have rc := I.val (Imm F p0 N w) β N (fun k _ => ⟨rfl, rfl⟩)
    simp only [List.getElem?_cons_zero, Option.getD_some]
    cases hg : m.g with
    | true => simp only [aggV, cond_true, RelS]; exact ⟨vs, hg1 hg, rc⟩
    | false =>
     have e := hg2 hg
     subst e
     simp only [aggV, cond_false]
     exact relS_of_relC rc
   | 1 => rw [ht1]; simp only [List.getElem?_cons_succ, List.getElem?_cons_zero, Option.getD_some]; rw [relS_d, relF_int]; exact ⟨rfl, hk⟩
   | t + 2 => simp only [List.getElem?_cons_succ, List.getElem?_nil, Option.getD_none, RelS]
 refine calls_of_wp hf hb (Code.wp_mono (fun e a' w' he => ?_) (ev_ok hΦ hB hmix cut c F A _ _ _ hck (free_mk c hnw (free_none c)) he p0 _ w hst))
 have key : ∀ p env M, St F p env M a' w' -> endMv B (toL fn.results) m (fun y n => y = (m.res x k).1 /\ n = (m.res x k).2) env M -> (e = .normal ∨ e = .ret) -> bodyPost P fn (fun e w' => e = .returned (.int .i64 (m.res x k).2) /\ ExtS w w' S /\ inK .i64 (m.res x k).2 /\
   ∃ S' : Nat -> Prop, Rel (fun _ => False) w' m.o (m.res x k).1 S' vs /\ ∀ b, S' b -> S b ∨ w.heap.size <= b /\ b < w'.heap.size) e a' w' := by
  intro p env M hs hr hee
  unfold endMv at hr
  split at hr
  ·rename_i rv hrv
   cases hnd : nodupN (vkeys (gt env 0).cells) with
   | false => rw [hnd] at hr; exact hr.elim
   | true =>
   rw [hnd] at hr
   simp only [cond_true] at hr
   split at hr
   ·rename_i v hv
    split at hr
    ·rename_i n y hn hy
     obtain ⟨rfl, rfl⟩ := hr
     obtain ⟨r, k1, k2⟩ := resV_ok (P := P) (a := a') hB hs.hp hs.slots rv v hv
     have hr1 : r = .int .i64 (m.res x k).2 /\ inK .i64 (m.res x k).2 := by
      cases v with
      | d t z =>
       simp only [asI] at hn
       rw [relS_d] at k2
       have := castT_rel hn k2
       rw [relF_int] at this
       exact this
      | _ => simp [asI] at hn
     obtain ⟨rfl, hin⟩ := hr1
     have hu0 : a'.tmps.getD 0 undef = u := by
      have := hs.fix 0 (a0.tmps.getD 0 undef) (by simp [F, mkFv, memN])
      rw [this, ht0]
     have hs0 := hs.slots 0
     rw [hu0] at hs0
     have hrun : (results fn a'.tmps).run P w' = .ok (.int .i64 (m.res x k).2) w' := by
      rw [results_eq, Array.mapM_eq_mapM_toList]
      rw [toL_eq] at hrv
      rw [hrv]
      simp [k1]
     have hc0 : RelC p.β M (Imm F p M w') w' (gt env 0).cells vs := by
      obtain ⟨vs1, z1, z2, z3⟩ := shape_ok hs.hp hs0 (gath_cellV hy)
      cases hag : isAg (gt env 0) with
      | true =>
       have e1 := z1 hag
       cases hg : m.g with
       | true =>
        have e2 := hg1 hg
        rw [e1] at e2
        simp only [Value.agg.injEq] at e2
        have : vs1 = vs := by simpa using e2
        rw [← this]; exact z3
       | false =>
        have e2 := hg2 hg
        have := Rel.one _ _ _ _ hr u (by rw [e2]; simp)
        rw [e1] at this; cases this
      | false =>
       have e1 := z2 hag
       cases hg : m.g with
       | true =>
        have e2 := hg1 hg
        have := RelC.one hs.hp _ _ z3 u (by rw [e1]; simp)
        rw [e2] at this; cases this
       | false => rw [hg2 hg, ← e1]; exact z3
     obtain ⟨S', q1, q2, _⟩ := gath_ok hs.hp m.o hfl _ vs _ hc0 hy hnd
     have hpost : Ending.returned (.int .i64 (m.res x k).2) = .returned (.int .i64 (m.res x k).2) /\ ExtS w w' S /\ inK .i64 (m.res x k).2 /\ ∃ S' : Nat -> Prop, Rel (fun _ => False) w' m.o (m.res x k).1 S' vs /\ ∀ b, S' b -> S b ∨ w.heap.size <= b /\ b < w'.heap.size := by
      refine ⟨rfl, ⟨hs.hp.os, hs.hp.tape, hs.hp.output, hs.hp.size, fun b hb hn => hs.hp.old b hb hn⟩, hin, S', q1, fun b hb => ?_⟩
      obtain ⟨j, _, j2, j3⟩ := q2 b hb
      have := hs.hp.own j b j2 j3
      rcases this.2 with ⟨_, h1⟩ | h1
      ·exact .inl h1
      ·exact .inr ⟨h1, this.1⟩
     rcases hee with rfl | rfl
     ·exact ⟨hs.defers, _, hrun, hpost⟩
     ·exact ⟨hs.defers, _, hrun, hpost⟩
    ·exact hr.elim
   ·exact hr.elim
  ·exact hr.elim
 cases e with
 | normal => obtain ⟨p, env, M, h1, h2⟩ := he; exact key p env M h1 h2 (.inl rfl)
 | ret => obtain ⟨p, env, M, h1, h2⟩ := he; exact key p env M h1 h2 (.inr rfl)
 | exit id => obtain ⟨p, env, M, h1, h2⟩ := he; exact h2.elim
 | goto l => obtain ⟨p, env, M, h1, h2⟩ := he; exact h2.elim
 | panic ch => exact he.elim
 | outgrown => exact he.elim
end
end Go.Bm
/- The typed machine: a function that writes what lies in the box that it is handed. -/
namespace Go.Bm
open Go.RowKit
section
variable {F : Fr} {a : Act} {w : World} {P : Program} {B : Tab} {Φ : FuncId -> Option Ct}
end
end Go.Bm
/- The typed machine: a function that writes what lies in a box, handed an address within it. -/
namespace Go.Bm
open Go.RowKit
section
variable {F : Fr} {a : Act} {w : World} {P : Program} {B : Tab} {Φ : FuncId -> Option Ct}
end
end Go.Bm
/- The typed machine: what a walk asks picks one end: so a law that bounds the results names them. -/
namespace Go.Bm
open Go.RowKit
def Tri {R : Type} (X : (R -> Prop) -> Prop) : Prop := (∀ K, ¬ X K) ∨ (∀ K, X K) ∨ ∃ r, ∀ K, X K ↔ K r
section
variable {R R' : Type}
theorem Tri.no : Tri (fun _ : R -> Prop => False) := .inl fun _ h => h
theorem Tri.bind {X : (R -> Prop) -> Prop} (h : Tri X) {F : (R' -> Prop) -> R -> Prop} (hF : ∀ r, Tri (fun K => F K r)) : Tri (fun K => X (F K)) := by
 rcases h with h | h | ⟨r, h⟩
 ·exact .inl fun K => h _
 ·exact .inr (.inl fun K => h _)
 ·have : (fun K => X (F K)) = (fun K => F K r) := funext fun K => propext (h _)
  rw [this]; exact hF r
theorem Tri.mono {X : (R -> Prop) -> Prop} (h : Tri X) {K K' : R -> Prop} (hk : ∀ r, K r -> K' r) (hx : X K) : X K' := by
 rcases h with h | h | ⟨r, h⟩
 ·exact (h _ hx).elim
 ·exact h _
 ·exact (h _).2 (hk _ ((h _).1 hx))
theorem Tri.conj {X : (R -> Prop) -> Prop} (h : Tri X) : (l : List Prop) -> Tri (fun K => conj l (X K))
 | [] => h
 | p :: l => by
  by_cases hp : p
  ·have : (fun K => Bm.conj (p :: l) (X K)) = (fun K => Bm.conj l (X K)) := funext fun K => propext ⟨fun h => h.2, fun h => ⟨hp, h⟩⟩
   rw [this]; exact Tri.conj h l
  ·exact .inl fun K hk => hp hk.1
theorem Tri.imp {X : (R -> Prop) -> Prop} (h : Tri X) (g : Prop) (l : List Prop) : Tri (fun K => imp g l (X K)) := by
 cases l with
 | nil => exact h
 | cons p l =>
  by_cases hp : g -> Bm.conj l p
  ·have : (fun K => Bm.imp g (p :: l) (X K)) = X := funext fun K => propext ⟨fun h => h.2, fun h => ⟨hp, h⟩⟩
   rw [this]; exact h
  ·exact .inl fun K hk => hp hk.1
theorem Tri.imps {X : (R -> Prop) -> Prop} (h : Tri X) : (l : List Prop) -> Tri (fun K => imps l (X K))
 | [] => h
 | p :: l => by
  by_cases hp : p
  ·have : (fun K => Bm.imps (p :: l) (X K)) = (fun K => Bm.imps l (X K)) := funext fun K => propext ⟨fun h => h hp, fun h _ => h⟩
   rw [this]; exact Tri.imps h l
  ·exact .inr (.inl fun K hk => absurd hk hp)
theorem Tri.cnd {X Y : (R -> Prop) -> Prop} (hx : Tri X) (hy : Tri Y) (b : Bool) : Tri (fun K => cnd b (X K) (Y K)) := by
 cases b with
 | true =>
  have : (fun K => Bm.cnd true (X K) (Y K)) = X := funext fun K => propext ⟨fun h => h.1 rfl, fun h => ⟨fun _ => h, fun h => nomatch h⟩⟩
  rw [this]; exact hx
 | false =>
  have : (fun K => Bm.cnd false (X K) (Y K)) = Y := funext fun K => propext ⟨fun h => h.2 rfl, fun h => ⟨fun h => (nomatch h), fun _ => h⟩⟩
  rw [this]; exact hy
theorem Tri.bif {X Y : (R -> Prop) -> Prop} (hx : Tri X) (hy : Tri Y) (b : Bool) : Tri (fun K => bif b then X K else Y K) := by
 cases b with
 | true => exact hx
 | false => exact hy
end
section
variable {B : Tab} {Φ : FuncId -> Option Ct} {R : Type}
theorem Tri.ifP {X Y : (R -> Prop) -> Prop} (hx : Tri X) (hy : Tri Y) (p : Prop) : Tri (fun K => ifP p (X K) (Y K)) := by
 by_cases hp : p
 ·have : (fun K => Bm.ifP p (X K) (Y K)) = X := funext fun K => propext ⟨fun h => h.1 hp, fun h => ⟨fun _ => h, fun h => absurd hp h⟩⟩
  rw [this]; exact hx
 ·have : (fun K => Bm.ifP p (X K) (Y K)) = Y := funext fun K => propext ⟨fun h => h.2 hp, fun h => ⟨fun h => absurd h hp, fun _ => h⟩⟩
  rw [this]; exact hy
end
end Go.Bm
/- The typed machine: data has a world; a law that bounds the results names them. -/
namespace Go.Bm
open Go.RowKit
def reT : T -> Bool
 | .int _ => true
 | .bool => true
 | .str => true
 | .u => true
 | .p a b => nob (reT a) (reT b)
 | .sl e => reT e
 | .pt t => reT t
 | _ => false
def World.put (w : World) (us : List Value) : World := { w with heap := w.heap.push (.cells us.toArray 0 (0, 0)) }
theorem put_size (w : World) (us : List Value) : (World.put w us).heap.size = w.heap.size + 1 := by simp [World.put]
theorem put_old (w : World) (us : List Value) (b : Nat) (h : b < w.heap.size) : (World.put w us).heap[b]? = w.heap[b]? := by
 simp only [World.put]
 rw [Array.getElem?_push, if_neg (by omega)]
theorem put_new (w : World) (us : List Value) : (World.put w us).heap[w.heap.size]? = some (.cells us.toArray 0 (0, 0)) := by
 simp only [World.put]
 rw [Array.getElem?_push, if_pos rfl]
theorem put_cells (w : World) (us : List Value) (o : Nat) (vs : List Value) (h : ∀ (j : Nat) (u : Value), vs[j]? = some u -> us[o + j]? = some u) : CellsAt (World.put w us) w.heap.size o vs := by
 intro j u hu
 simp only [World.cell?, put_new]
 simpa using h j u hu
theorem flat_get {n : Nat} : ∀ (vss : List (List Value)), (∀ us ∈ vss, us.length = n) -> ∀ (i : Nat) (us : List Value), vss[i]? = some us -> ∀ (j : Nat) (u : Value), us[j]? = some u -> vss.flatten[i * n + j]? = some u
 | [], _, i, us, h, _, _, _ => by simp at h
 | vs :: vss, hl, 0, us, h, j, u, hj => by
  simp only [List.getElem?_cons_zero, Option.some.injEq] at h
  subst h
  rw [List.flatten_cons, Nat.zero_mul, Nat.zero_add, List.getElem?_append_left (List.getElem?_eq_some_iff.1 hj).1]
  exact hj
 | vs :: vss, hl, i + 1, us, h, j, u, hj => by
  simp only [List.getElem?_cons_succ] at h
  have := flat_get vss (fun us hu => hl us (List.mem_cons_of_mem _ hu)) i us h j u hj
  have hv := hl vs (List.mem_cons_self ..)
  rw [List.flatten_cons, List.getElem?_append_right (by rw [hv, Nat.succ_mul]; omega), hv, show (i + 1) * n + j - n = i * n + j by rw [Nat.succ_mul]; omega]
  exact this
abbrev lt (w : World) : Nat -> Prop := fun b => b < w.heap.size
theorem grow_keep {w w' : World} (h1 : w.heap.size <= w'.heap.size) (h2 : ∀ b, b < w.heap.size -> w'.heap[b]? = w.heap[b]?) : Keep (lt w) (lt w') w w' :=
 fun b hb => ⟨Nat.lt_of_lt_of_le hb h1, h2 b hb⟩
theorem rep_l {e : T} (ih : ∀ (x : e.den), e.ok x -> ∀ w : World, ∃ w' vs, w.heap.size <= w'.heap.size /\ (∀ b, b < w.heap.size -> w'.heap[b]? = w.heap[b]?) /\ RelF (lt w') w' e x vs) :
  (l : List e.den) -> (∀ y ∈ l, e.ok y) -> ∀ w : World, ∃ w', ∃ vss : List (List Value), w.heap.size <= w'.heap.size /\ (∀ b, b < w.heap.size -> w'.heap[b]? = w.heap[b]?) /\ vss.length = l.length /\ ∀ (i : Nat) (x : e.den) (us : List Value), l[i]? = some x -> vss[i]? = some us -> RelF (lt w') w' e x us
 | [], _, w => ⟨w, [], Nat.le_refl _, fun _ _ => rfl, rfl, fun i x us h => by simp at h⟩
 | x :: l, h, w => by
  obtain ⟨w1, vs, a1, a2, a3⟩ := ih x (h x (List.mem_cons_self ..)) w
  obtain ⟨w2, vss, b1, b2, b3, b4⟩ := rep_l ih l (fun y hy => h y (List.mem_cons_of_mem _ hy)) w1
  refine ⟨w2, vs :: vss, Nat.le_trans a1 b1, fun b hb => (b2 b (Nat.lt_of_lt_of_le hb a1)).trans (a2 b hb), by simp [b3], fun i y us hi hu => ?_⟩
  cases i with
  | zero =>
   simp only [List.getElem?_cons_zero, Option.some.injEq] at hi hu
   subst hi; subst hu
   exact RelF.keep (grow_keep b1 b2) _ _ _ a3
  | succ i => exact b4 i y us (by simpa using hi) (by simpa using hu)
theorem rep : (t : T) -> reT t = true -> (x : t.den) -> t.ok x -> ∀ w : World, ∃ w' vs, w.heap.size <= w'.heap.size /\ (∀ b, b < w.heap.size -> w'.heap[b]? = w.heap[b]?) /\ RelF (lt w') w' t x vs
 | .int k, _, x, h, w => ⟨w, [.int k x], Nat.le_refl _, fun _ _ => rfl, by simp only [RelF, true_and]; exact h⟩
 | .bool, _, x, h, w => ⟨w, [.bool x], Nat.le_refl _, fun _ _ => rfl, by simp only [RelF]⟩
 | .str, _, x, h, w => ⟨w, [.string x], Nat.le_refl _, fun _ _ => rfl, by simp only [RelF, true_and]; exact h⟩
 | .u, _, x, h, w => ⟨w, [], Nat.le_refl _, fun _ _ => rfl, by simp only [RelF]⟩
 | .p a b, hr, x, h, w => by
  simp only [reT, nob_eq, Bool.and_eq_true] at hr
  obtain ⟨w1, va, a1, a2, a3⟩ := rep a hr.1 x.1 h.1 w
  obtain ⟨w2, vb, b1, b2, b3⟩ := rep b hr.2 x.2 h.2 w1
  refine ⟨w2, va ++ vb, Nat.le_trans a1 b1, fun c hc => (b2 c (Nat.lt_of_lt_of_le hc a1)).trans (a2 c hc), ?_⟩
  simp only [RelF]
  exact ⟨va, vb, rfl, RelF.keep (grow_keep b1 b2) _ _ _ a3, b3⟩
 | .pt t, hr, x, h, w => by
  obtain ⟨w1, vs, a1, a2, a3⟩ := rep t hr x h w
  refine ⟨World.put w1 vs, [.pointer (some ⟨w1.heap.size, 0, none⟩)], by rw [put_size]; omega, fun b hb => by rw [put_old _ _ _ (by omega)]; exact a2 b hb, ?_⟩
  simp only [RelF]
  refine ⟨w1.heap.size, 0, vs, rfl, by simp only [lt, put_size]; omega, put_cells _ _ _ _ (fun j u hu => by rw [Nat.zero_add]; exact hu), ?_⟩
  exact RelF.keep (grow_keep (by rw [put_size]; omega) (fun b hb => put_old _ _ b hb)) _ _ _ a3
 | .sl e, hr, l, h, w => by
  have h' : l.length <= nb /\ ∀ y ∈ l, e.ok y := h
  obtain ⟨w1, vss, a1, a2, a3, a4⟩ := rep_l (rep e hr) l h'.2 w
  have hlen : ∀ us ∈ vss, us.length = e.size := fun us hu => by
   obtain ⟨i, hi, rfl⟩ := List.getElem_of_mem hu
   exact RelF.len _ _ _ (a4 i (l[i]'(by omega)) _ (List.getElem?_eq_getElem (by omega)) (List.getElem?_eq_getElem hi))
  refine ⟨World.put w1 vss.flatten, [.slice (some ⟨w1.heap.size, 0, none⟩) l.length l.length], by rw [put_size]; omega, fun b hb => by rw [put_old _ _ _ (by omega)]; exact a2 b hb, ?_⟩
  simp only [RelF]
  refine ⟨some ⟨w1.heap.size, 0, none⟩, l.length, rfl, ⟨h'.1, Nat.le_refl _⟩, (fun h => nomatch h), fun a ha hp => ?_⟩
  cases ha
  refine ⟨rfl, by simp only [lt, put_size]; omega, fun i x hx => ?_⟩
  have hi := (List.getElem?_eq_some_iff.1 hx).1
  have hv : vss[i]? = some (vss[i]'(by omega)) := List.getElem?_eq_getElem (by omega)
  refine ⟨_, put_cells _ _ _ (vss[i]'(by omega)) (fun j u hu => ?_), RelF.keep (grow_keep (by rw [put_size]; omega) (fun b hb => put_old _ _ b hb)) _ _ _ (a4 i x _ hx hv)⟩
  rw [Nat.zero_add]
  exact flat_get vss hlen i _ hv j u hu
 | .fn _ _, hr, _, _, _ => by simp [reT] at hr
 | .ifc _ _, hr, _, _, _ => by simp [reT] at hr
 | .mp _ _, hr, _, _, _ => by simp [reT] at hr
 | .op _, hr, _, _, _ => by simp [reT] at hr
 | .ns _, hr, _, _, _ => by simp [reT] at hr
 | .any, hr, _, _, _ => by simp [reT] at hr
section
variable {P : Program} {B : Tab} {Φ : FuncId -> Option Ct}
end
end Go.Bm
/- The typed machine: a function whose code jumps back to labels. -/
namespace Go.Bm
open Go.RowKit
section
variable {F : Fr} {p : Ow} {env : Env} {M : Mem} {a : Act} {w : World} {P : Program} {B : Tab} {Φ : FuncId -> Option Ct}
end
end Go.Bm
/- Numbers written into data one after the other, and read back. No condition. -/
namespace Go.Bm
def mapK {α : Type} (f : α -> Int -> α × Int) : List α -> Int -> List α × Int
 | [], n => ([], n)
 | x :: r, n => ((f x n).1 :: (mapK f r (f x n).2).1, (mapK f r (f x n).2).2)
def mkR : (t : T) -> t.den -> Int -> t.den × Int
 | .int _, _, n => (n, n + 1)
 | .p a b, x, n => (((mkR a x.1 n).1, (mkR b x.2 (mkR a x.1 n).2).1), (mkR b x.2 (mkR a x.1 n).2).2)
 | .sl e, l, n => mapK (mkR e) l n
 | .bool, x, n => (x, n)
 | .str, x, n => (x, n)
 | .u, x, n => (x, n)
 | .pt _, x, n => (x, n)
 | .fn _ _, x, n => (x, n)
 | .ifc _ _, x, n => (x, n)
 | .mp _ _, x, n => (x, n)
 | .op _, x, n => (x, n)
 | .ns _, x, n => (x, n)
 | .any, x, n => (x, n)
def mtR : (t : T) -> t.den -> Int -> t.den × Int
 | .int _, x, n => (x, n)
 | .p a b, x, n => (((mtR a x.1 n).1, (mtR b x.2 (mtR a x.1 n).2).1), (mtR b x.2 (mtR a x.1 n).2).2)
 | .sl e, l, n => mkR (.sl e) l n
 | .bool, x, n => (x, n)
 | .str, x, n => (x, n)
 | .u, x, n => (x, n)
 | .pt _, x, n => (x, n)
 | .fn _ _, x, n => (x, n)
 | .ifc _ _, x, n => (x, n)
 | .mp _ _, x, n => (x, n)
 | .op _, x, n => (x, n)
 | .ns _, x, n => (x, n)
 | .any, x, n => (x, n)
def hdL {α : Type} (f : α -> Int -> Int) : List α -> Int -> Int
 | [], n => n
 | x :: r, n => if f x n < 0 then -1 else hdL f r (f x n)
def hdR : (t : T) -> t.den -> Int -> Int
 | .int _, x, n => if (x : Int) = n then n + 1 else -1
 | .p a b, x, n => if hdR a x.1 n < 0 then -1 else hdR b x.2 (hdR a x.1 n)
 | .sl e, l, n => hdL (hdR e) l n
 | .bool, _, n => n
 | .str, _, n => n
 | .u, _, n => n
 | .pt _, _, n => n
 | .fn _ _, _, n => n
 | .ifc _ _, _, n => n
 | .mp _ _, _, n => n
 | .op _, _, n => n
 | .ns _, _, n => n
 | .any, _, n => n
def htR : (t : T) -> t.den -> Int -> Int
 | .int _, _, n => n
 | .p a b, x, n => if htR a x.1 n < 0 then -1 else htR b x.2 (htR a x.1 n)
 | .sl e, l, n => hdR (.sl e) l n
 | .bool, _, n => n
 | .str, _, n => n
 | .u, _, n => n
 | .pt _, _, n => n
 | .fn _ _, _, n => n
 | .ifc _ _, _, n => n
 | .mp _ _, _, n => n
 | .op _, _, n => n
 | .ns _, _, n => n
 | .any, _, n => n
def ckR : (t : T) -> t.den -> Nat
 | .int _, _ => 1
 | .p a b, x => ckR a x.1 + ckR b x.2
 | .sl e, l => (l.map (ckR e)).sum
 | .bool, _ => 0
 | .str, _ => 0
 | .u, _ => 0
 | .pt _, _ => 0
 | .fn _ _, _ => 0
 | .ifc _ _, _ => 0
 | .mp _ _, _ => 0
 | .op _, _ => 0
 | .ns _, _ => 0
 | .any, _ => 0
def ctR : (t : T) -> t.den -> Nat
 | .int _, _ => 0
 | .p a b, x => ctR a x.1 + ctR b x.2
 | .sl e, l => ckR (.sl e) l
 | .bool, _ => 0
 | .str, _ => 0
 | .u, _ => 0
 | .pt _, _ => 0
 | .fn _ _, _ => 0
 | .ifc _ _, _ => 0
 | .mp _ _, _ => 0
 | .op _, _ => 0
 | .ns _, _ => 0
 | .any, _ => 0
theorem mapK_len {α : Type} {f : α -> Int -> α × Int} : ∀ (l : List α) (n : Int), (mapK f l n).1.length = l.length
 | [], _ => rfl
 | x :: r, n => by simp only [mapK, List.length_cons]; rw [mapK_len r]
theorem mapK_app {α : Type} {f : α -> Int -> α × Int} (x : α) : ∀ (l : List α) (n : Int), mapK f (l ++ [x]) n = ((mapK f l n).1 ++ [(f x (mapK f l n).2).1], (f x (mapK f l n).2).2)
 | [], n => rfl
 | y :: r, n => by simp only [List.cons_append, mapK]; rw [mapK_app x r]
theorem mapK_num {α : Type} {f : α -> Int -> α × Int} {c : α -> Nat} (h : ∀ x n, (f x n).2 = n + c x) : ∀ (l : List α) (n : Int), (mapK f l n).2 = n + (l.map c).sum
 | [], n => by simp [mapK]
 | x :: r, n => by simp only [mapK, List.map_cons, List.sum_cons]; rw [mapK_num h r, h]; omega
theorem mk_num : (t : T) -> (x : t.den) -> (n : Int) -> (mkR t x n).2 = n + ckR t x
 | .int _, x, n => by simp [mkR, ckR]
 | .p a b, x, n => by simp only [mkR, ckR]; rw [mk_num b, mk_num a]; omega
 | .sl e, l, n => by simp only [mkR, ckR]; exact mapK_num (mk_num e) l n
 | .bool, x, n => by simp [mkR, ckR]
 | .str, x, n => by simp [mkR, ckR]
 | .u, x, n => by simp [mkR, ckR]
 | .pt _, x, n => by simp [mkR, ckR]
 | .fn _ _, x, n => by simp [mkR, ckR]
 | .ifc _ _, x, n => by simp [mkR, ckR]
 | .mp _ _, x, n => by simp [mkR, ckR]
 | .op _, x, n => by simp [mkR, ckR]
 | .ns _, x, n => by simp [mkR, ckR]
 | .any, x, n => by simp [mkR, ckR]
theorem mt_num : (t : T) -> (x : t.den) -> (n : Int) -> (mtR t x n).2 = n + ctR t x
 | .int _, x, n => by simp [mtR, ctR]
 | .p a b, x, n => by simp only [mtR, ctR]; rw [mt_num b, mt_num a]; omega
 | .sl e, l, n => by simp only [mtR, ctR]; exact mk_num (.sl e) l n
 | .bool, x, n => by simp [mtR, ctR]
 | .str, x, n => by simp [mtR, ctR]
 | .u, x, n => by simp [mtR, ctR]
 | .pt _, x, n => by simp [mtR, ctR]
 | .fn _ _, x, n => by simp [mtR, ctR]
 | .ifc _ _, x, n => by simp [mtR, ctR]
 | .mp _ _, x, n => by simp [mtR, ctR]
 | .op _, x, n => by simp [mtR, ctR]
 | .ns _, x, n => by simp [mtR, ctR]
 | .any, x, n => by simp [mtR, ctR]
theorem hdL_mapK {α : Type} {f : α -> Int -> α × Int} {g : α -> Int -> Int} (h : ∀ x n, 0 <= n -> g (f x n).1 n = (f x n).2 /\ n <= (f x n).2) : ∀ (l : List α) (n : Int), 0 <= n -> hdL g (mapK f l n).1 n = (mapK f l n).2 /\ n <= (mapK f l n).2
 | [], n, _ => by simp [mapK, hdL]
 | x :: r, n, hn => by
  obtain ⟨h1, h2⟩ := h x n hn
  obtain ⟨h3, h4⟩ := hdL_mapK h r (f x n).2 (by omega)
  simp only [mapK, hdL, h1]
  rw [if_neg (by omega)]
  exact ⟨h3, by omega⟩
theorem hd_mk : (t : T) -> (x : t.den) -> (n : Int) -> 0 <= n -> hdR t (mkR t x n).1 n = (mkR t x n).2 /\ n <= (mkR t x n).2
 | .int _, x, n, _ => by simp [mkR, hdR]; omega
 | .p a b, x, n, hn => by
  obtain ⟨h1, h2⟩ := hd_mk a x.1 n hn
  obtain ⟨h3, h4⟩ := hd_mk b x.2 (mkR a x.1 n).2 (by omega)
  simp only [mkR, hdR, h1]
  rw [if_neg (by omega)]
  exact ⟨h3, by omega⟩
 | .sl e, l, n, hn => by simp only [mkR, hdR]; exact hdL_mapK (hd_mk e) l n hn
 | .bool, x, n, _ => by simp [mkR, hdR]
 | .str, x, n, _ => by simp [mkR, hdR]
 | .u, x, n, _ => by simp [mkR, hdR]
 | .pt _, x, n, _ => by simp [mkR, hdR]
 | .fn _ _, x, n, _ => by simp [mkR, hdR]
 | .ifc _ _, x, n, _ => by simp [mkR, hdR]
 | .mp _ _, x, n, _ => by simp [mkR, hdR]
 | .op _, x, n, _ => by simp [mkR, hdR]
 | .ns _, x, n, _ => by simp [mkR, hdR]
 | .any, x, n, _ => by simp [mkR, hdR]
theorem ht_mt : (t : T) -> (x : t.den) -> (n : Int) -> 0 <= n -> htR t (mtR t x n).1 n = (mtR t x n).2 /\ n <= (mtR t x n).2
 | .int _, x, n, _ => by simp [mtR, htR]
 | .p a b, x, n, hn => by
  obtain ⟨h1, h2⟩ := ht_mt a x.1 n hn
  obtain ⟨h3, h4⟩ := ht_mt b x.2 (mtR a x.1 n).2 (by omega)
  simp only [mtR, htR, h1]
  rw [if_neg (by omega)]
  exact ⟨h3, by omega⟩
 | .sl e, l, n, hn => by simp only [mtR, htR]; exact hd_mk (.sl e) l n hn
 | .bool, x, n, _ => by simp [mtR, htR]
 | .str, x, n, _ => by simp [mtR, htR]
 | .u, x, n, _ => by simp [mtR, htR]
 | .pt _, x, n, _ => by simp [mtR, htR]
 | .fn _ _, x, n, _ => by simp [mtR, htR]
 | .ifc _ _, x, n, _ => by simp [mtR, htR]
 | .mp _ _, x, n, _ => by simp [mtR, htR]
 | .op _, x, n, _ => by simp [mtR, htR]
 | .ns _, x, n, _ => by simp [mtR, htR]
 | .any, x, n, _ => by simp [mtR, htR]
theorem hdL_val {α : Type} {g : α -> Int -> Int} {c : α -> Nat} (h : ∀ x n, 0 <= n -> g x n = -1 ∨ g x n = n + c x) : ∀ (l : List α) (n : Int), 0 <= n -> hdL g l n = -1 ∨ hdL g l n = n + (l.map c).sum
 | [], n, _ => by simp [hdL]
 | x :: r, n, hn => by
  simp only [hdL, List.map_cons, List.sum_cons]
  rcases h x n hn with e | e
  ·rw [e]; simp
  ·rw [e, if_neg (by omega)]
   rcases hdL_val h r (n + c x) (by omega) with e' | e' <;> omega
theorem hd_val : (t : T) -> (x : t.den) -> (n : Int) -> 0 <= n -> hdR t x n = -1 ∨ hdR t x n = n + ckR t x
 | .int _, x, n, _ => by simp only [hdR, ckR]; split <;> simp
 | .p a b, x, n, hn => by
  simp only [hdR, ckR]
  rcases hd_val a x.1 n hn with e | e
  ·rw [e]; simp
  ·rw [e, if_neg (by omega)]
   rcases hd_val b x.2 (n + ckR a x.1) (by omega) with e' | e' <;> omega
 | .sl e, l, n, hn => by simp only [hdR, ckR]; exact hdL_val (hd_val e) l n hn
 | .bool, x, n, _ => by simp [hdR, ckR]
 | .str, x, n, _ => by simp [hdR, ckR]
 | .u, x, n, _ => by simp [hdR, ckR]
 | .pt _, x, n, _ => by simp [hdR, ckR]
 | .fn _ _, x, n, _ => by simp [hdR, ckR]
 | .ifc _ _, x, n, _ => by simp [hdR, ckR]
 | .mp _ _, x, n, _ => by simp [hdR, ckR]
 | .op _, x, n, _ => by simp [hdR, ckR]
 | .ns _, x, n, _ => by simp [hdR, ckR]
 | .any, x, n, _ => by simp [hdR, ckR]
theorem ht_val : (t : T) -> (x : t.den) -> (n : Int) -> 0 <= n -> htR t x n = -1 ∨ htR t x n = n + ctR t x
 | .int _, x, n, _ => by simp [htR, ctR]
 | .p a b, x, n, hn => by
  simp only [htR, ctR]
  rcases ht_val a x.1 n hn with e | e
  ·rw [e]; simp
  ·rw [e, if_neg (by omega)]
   rcases ht_val b x.2 (n + ctR a x.1) (by omega) with e' | e' <;> omega
 | .sl e, l, n, hn => by simp only [htR, ctR]; exact hd_val (.sl e) l n hn
 | .bool, x, n, _ => by simp [htR, ctR]
 | .str, x, n, _ => by simp [htR, ctR]
 | .u, x, n, _ => by simp [htR, ctR]
 | .pt _, x, n, _ => by simp [htR, ctR]
 | .fn _ _, x, n, _ => by simp [htR, ctR]
 | .ifc _ _, x, n, _ => by simp [htR, ctR]
 | .mp _ _, x, n, _ => by simp [htR, ctR]
 | .op _, x, n, _ => by simp [htR, ctR]
 | .ns _, x, n, _ => by simp [htR, ctR]
 | .any, x, n, _ => by simp [htR, ctR]
theorem ck_mapK {α : Type} {f : α -> Int -> α × Int} {c : α -> Nat} (h : ∀ x n, c (f x n).1 = c x) : ∀ (l : List α) (n : Int), ((mapK f l n).1.map c).sum = (l.map c).sum
 | [], n => rfl
 | x :: r, n => by simp only [mapK, List.map_cons, List.sum_cons]; rw [ck_mapK h r, h]
theorem ck_mk : (t : T) -> (x : t.den) -> (n : Int) -> ckR t (mkR t x n).1 = ckR t x
 | .int _, x, n => rfl
 | .p a b, x, n => by simp only [mkR, ckR]; rw [ck_mk a, ck_mk b]
 | .sl e, l, n => by simp only [mkR, ckR]; exact ck_mapK (ck_mk e) l n
 | .bool, x, n => rfl
 | .str, x, n => rfl
 | .u, x, n => rfl
 | .pt _, x, n => rfl
 | .fn _ _, x, n => rfl
 | .ifc _ _, x, n => rfl
 | .mp _ _, x, n => rfl
 | .op _, x, n => rfl
 | .ns _, x, n => rfl
 | .any, x, n => rfl
theorem ct_mt : (t : T) -> (x : t.den) -> (n : Int) -> ctR t (mtR t x n).1 = ctR t x
 | .int _, x, n => rfl
 | .p a b, x, n => by simp only [mtR, ctR]; rw [ct_mt a, ct_mt b]
 | .sl e, l, n => by simp only [mtR, ctR]; exact ck_mk (.sl e) l n
 | .bool, x, n => rfl
 | .str, x, n => rfl
 | .u, x, n => rfl
 | .pt _, x, n => rfl
 | .fn _ _, x, n => rfl
 | .ifc _ _, x, n => rfl
 | .mp _ _, x, n => rfl
 | .op _, x, n => rfl
 | .ns _, x, n => rfl
 | .any, x, n => rfl
theorem ht_mt1 {t : T} {x : t.den} {n : Nat} : htR t (mtR t x n).1 n = n + ctR t x := by rw [(ht_mt t x n (by omega)).1, mt_num]
def dirN : T -> Nat
 | .int _ => 1
 | .p a b => dirN a + dirN b
 | _ => 0
def slimT : T -> Bool
 | .sl e => slimT e && decide (dirN e <= 1)
 | .p a b => slimT a && slimT b
 | _ => true
theorem ck_le : (t : T) -> slimT t = true -> (x : t.den) -> ckR t x <= dirN t + wR t x
 | .int _, _, x => by simp [ckR, dirN]
 | .p a b, h, x => by
  simp only [slimT, Bool.and_eq_true] at h
  have h1 := ck_le a h.1 x.1
  have h2 := ck_le b h.2 x.2
  simp only [ckR, dirN, wR]; omega
 | .sl e, h, l => by
  simp only [slimT, Bool.and_eq_true, decide_eq_true_eq] at h
  simp only [ckR, dirN, wR]
  have : ∀ l : List e.den, (l.map (ckR e)).sum <= l.length + (l.map (wR e)).sum := by
   intro l
   induction l with
   | nil => simp
   | cons y l ih =>
    simp only [List.map_cons, List.sum_cons, List.length_cons]
    have := ck_le e h.1 y
    omega
  have := this l
  omega
 | .bool, _, x => by simp [ckR]
 | .str, _, x => by simp [ckR]
 | .u, _, x => by simp [ckR]
 | .pt _, _, x => by simp [ckR]
 | .fn _ _, _, x => by simp [ckR]
 | .ifc _ _, _, x => by simp [ckR]
 | .mp _ _, _, x => by simp [ckR]
 | .op _, _, x => by simp [ckR]
 | .ns _, _, x => by simp [ckR]
 | .any, _, x => by simp [ckR]
theorem ct_le : (t : T) -> slimT t = true -> (x : t.den) -> ctR t x <= wR t x
 | .int _, _, x => by simp [ctR]
 | .p a b, h, x => by
  simp only [slimT, Bool.and_eq_true] at h
  have h1 := ct_le a h.1 x.1
  have h2 := ct_le b h.2 x.2
  simp only [ctR, wR]; omega
 | .sl e, h, l => by have := ck_le (.sl e) h l; simp only [ctR, dirN] at this ⊢; omega
 | .bool, _, x => by simp [ctR]
 | .str, _, x => by simp [ctR]
 | .u, _, x => by simp [ctR]
 | .pt _, _, x => by simp [ctR]
 | .fn _ _, _, x => by simp [ctR]
 | .ifc _ _, _, x => by simp [ctR]
 | .mp _ _, _, x => by simp [ctR]
 | .op _, _, x => by simp [ctR]
 | .ns _, _, x => by simp [ctR]
 | .any, _, x => by simp [ctR]
theorem ck_ints {k : IntKind} (l : List Int) : ckR (.sl (.int k)) l = l.length := by
 simp only [ckR]
 induction l with
 | nil => rfl
 | cons x l ih => simp only [List.map_cons, List.sum_cons, List.length_cons, ih]; omega
theorem set_mid {α : Type} (A l : List α) (y : α) {i : Nat} (h : A.length = i) (hi : i < l.length) : (A ++ l.drop i).set i y = (A ++ [y]) ++ l.drop (i + 1) := by
 rw [List.set_append, if_neg (by omega), h, Nat.sub_self, List.drop_eq_getElem_cons hi, List.set_cons_zero, List.append_assoc, List.cons_append, List.nil_append]
theorem get_mid {α : Type} (A l : List α) (d : α) {i : Nat} (h : A.length = i) : (A ++ l.drop i).getD i d = l.getD i d := by
 rw [List.getD_eq_getElem?_getD, List.getD_eq_getElem?_getD, List.getElem?_append_right (by omega), h, Nat.sub_self, List.getElem?_drop, Nat.add_zero]
theorem take_sum {α : Type} {c : α -> Nat} (l : List α) (d : α) {i : Int} (h0 : 0 <= i) (h1 : i < l.length) : ((l.take i.toNat).map c).sum + c (l.getD i.toNat d) <= (l.map c).sum := by
 have h := List.take_append_drop i.toNat l
 have e : (l.map c).sum = ((l.take i.toNat).map c).sum + ((l.drop i.toNat).map c).sum := by
  rw [← List.sum_append, ← List.map_append, h]
 rw [e, drop_c l d h0 h1]
 simp only [List.map_cons, List.sum_cons]; omega
theorem mark_loop {e : T} (d : e.den) (a : List e.den) (k0 : Int) {body : (Unit × (Int × (Int × Unit))) × (List e.den × Unit) -> ((Unit × (Int × (Int × Unit))) × (List e.den × Unit) -> Prop) -> Prop}
  (hk : 0 <= k0) (hb : k0 + ckR (.sl e) a <= 4611686018427387904)
  (hs : ∀ (k i : Int) (l : List e.den) next, 0 <= i -> i < l.length -> l.length = a.length -> l.getD i.toNat d = a.getD i.toNat d -> 0 <= k -> k + ckR e (a.getD i.toNat d) <= 4611686018427387904 ->
   next (((), ((mkR e (a.getD i.toNat d) k).2, (i + 1, ()))), (l.set i.toNat (mkR e (a.getD i.toNat d) k).1, ())) -> body (((), (k, (i, ()))), (l, ())) next)
  (he : ∀ (i : Int) (l : List e.den) next, (l.length : Int) <= i -> l = (mkR (.sl e) a k0).1 -> body (((), ((mkR (.sl e) a k0).2, (i, ()))), (l, ())) next) : loopW body (((), (k0, (0, ()))), (a, ())) := by
 refine loop_of (fun (s : (Unit × (Int × (Int × Unit))) × (List e.den × Unit)) => 0 <= s.1.2.2.1 /\ s.1.2.2.1 <= a.length /\ s.2.1 = (mapK (mkR e) (a.take s.1.2.2.1.toNat) k0).1 ++ a.drop s.1.2.2.1.toNat /\ s.1.2.1 = (mapK (mkR e) (a.take s.1.2.2.1.toNat) k0).2) (fun s => ((a.length : Int) - s.1.2.2.1).toNat) ?_ ⟨Int.le_refl _, by simp, by simp [mapK], by simp [mapK]⟩
 rintro ⟨⟨_, k, i, _⟩, l, _⟩ next ⟨h0, h1, h2, h3⟩ hn
 dsimp only at h0 h1 h2 h3 hn
 have hl : (mapK (mkR e) (a.take i.toNat) k0).1.length = i.toNat := by rw [mapK_len, List.length_take]; omega
 have hll : l.length = a.length := by rw [h2, List.length_append, hl, List.length_drop]; omega
 by_cases hc : i < a.length
 ·have hg : l.getD i.toNat d = a.getD i.toNat d := by rw [h2]; exact get_mid _ a d hl
  have hkn : k = k0 + ((a.take i.toNat).map (ckR e)).sum := by rw [h3]; exact mapK_num (mk_num e) _ _
  have hts := take_sum (c := ckR e) a d h0 hc
  simp only [ckR] at hb
  have ht : a.take (i + 1).toNat = a.take i.toNat ++ [a.getD i.toNat d] := take_c a d h0 hc
  refine hs k i l next h0 (by omega) hll hg (by omega) (by omega) (hn _ ⟨by dsimp only; omega, by dsimp only; omega, ?_, ?_⟩ (by dsimp only; omega))
  ·dsimp only
   rw [ht, mapK_app, h2, set_mid _ a _ hl (by omega), ← h3, show (i + 1).toNat = i.toNat + 1 from by omega]
  ·dsimp only
   rw [ht, mapK_app, ← h3]
 ·have e1 : a.take i.toNat = a := take_n a (by omega)
  have e2 : a.drop i.toNat = [] := drop_n a (by omega)
  rw [e1] at h2 h3
  rw [e2, List.append_nil] at h2
  rw [h3]
  exact he i l next (by omega) h2
theorem hd_int {k : IntKind} (x n : Int) : hdR (.int k) x n = if x = n then n + 1 else -1 := rfl
theorem held_loop {e : T} (d : e.den) (a : List e.den) (k0 : Int) {body : (Int × (Int × Unit)) × Unit -> ((Int × (Int × Unit)) × Unit -> Prop) -> Prop}
  (hk : 0 <= k0) (hb : k0 + ckR (.sl e) a <= 4611686018427387904)
  (hs : ∀ (k i : Int) next, 0 <= i -> i < a.length -> 0 <= k -> k + ckR e (a.getD i.toNat d) <= 4611686018427387904 -> (hdR e (a.getD i.toNat d) k < 0 -> hdR (.sl e) a k0 = -1) ->
   (¬ hdR e (a.getD i.toNat d) k < 0 -> next ((hdR e (a.getD i.toNat d) k, (i + 1, ())), ())) -> body ((k, (i, ())), ()) next)
  (he : ∀ (i : Int) next, (a.length : Int) <= i -> body ((hdR (.sl e) a k0, (i, ())), ()) next) : loopW body ((k0, (0, ())), ()) := by
 refine loop_of (fun (s : (Int × (Int × Unit)) × Unit) => 0 <= s.1.2.1 /\ s.1.2.1 <= a.length /\ hdR (.sl e) a k0 = hdL (hdR e) (a.drop s.1.2.1.toNat) s.1.1 /\ 0 <= s.1.1 /\ s.1.1 + ((a.drop s.1.2.1.toNat).map (ckR e)).sum <= 4611686018427387904) (fun s => ((a.length : Int) - s.1.2.1).toNat) ?_ ⟨Int.le_refl _, by simp, by simp [hdR], hk, by simpa [ckR] using hb⟩
 rintro ⟨⟨k, i, _⟩, _⟩ next ⟨h0, h1, h2, h3, h4⟩ hn
 dsimp only at h0 h1 h2 h3 h4 hn
 by_cases hc : i < a.length
 ·rw [drop_c a d h0 hc] at h2 h4
  simp only [List.map_cons, List.sum_cons] at h4
  refine hs k i next h0 hc h3 (by omega) (fun hx => by rw [h2]; simp only [hdL]; rw [if_pos hx]) (fun hx => ?_)
  have hv := hd_val e (a.getD i.toNat d) k h3
  have hv2 : hdR e (a.getD i.toNat d) k = k + ckR e (a.getD i.toNat d) := by omega
  exact hn _ ⟨by dsimp only; omega, by dsimp only; omega, by dsimp only; rw [h2]; simp only [hdL]; rw [if_neg hx], by dsimp only; omega, by dsimp only; omega⟩ (by dsimp only; omega)
 ·have e2 : a.drop i.toNat = [] := drop_n a (by omega)
  rw [e2] at h2
  simp only [hdL] at h2
  rw [← h2]
  exact he i next (by omega)
end Go.Bm
/- The data of the types of the program. No condition. -/
namespace Go.Bm
abbrev CategoryT : T := (.p (.int .i64) (.p (.sl (.int .i64)) (.p (.sl (.int .i64)) (.p (.sl (.int .i64)) (.sl (.sl (.int .i64)))))))
abbrev CategoryD : Type := Int × ((List Int) × ((List Int) × ((List Int) × (List (List Int)))))
abbrev CategoryO : O := (.p (.fz (.int .i64)) (.p (.sl (.fz (.int .i64))) (.p (.sl (.fz (.int .i64))) (.p (.sl (.fz (.int .i64))) (.sl (.sl (.fz (.int .i64))))))))
abbrev PathT : T := (.p (.int .i64) (.sl (.int .i64)))
abbrev PathD : Type := Int × (List Int)
abbrev PathO : O := (.p (.fz (.int .i64)) (.sl (.fz (.int .i64))))
abbrev SchemaT : T := (.p (.int .i64) (.p (.sl (.int .i64)) (.p (.sl (.int .i64)) (.p (.sl PathT) (.sl PathT)))))
abbrev SchemaD : Type := Int × ((List Int) × ((List Int) × ((List PathD) × (List PathD))))
abbrev SchemaO : O := (.p (.fz (.int .i64)) (.p (.sl (.fz (.int .i64))) (.p (.sl (.fz (.int .i64))) (.p (.sl PathO) (.sl PathO)))))
abbrev endsT : T := (.p (.int .i64) (.int .i64))
abbrev endsD : Type := Int × Int
abbrev completionD : Type := CategoryD × ((List Int) × (List (Int × (Int × Int))))
end Go.Bm
/- Small facts about lists, for the walks. No condition. -/
namespace Go.Bm
def inR (n lo hi : Int) : Bool := decide (lo <= n) && decide (n <= hi)
theorem inR_iff {n lo hi : Int} : inR n lo hi = true ↔ lo <= n /\ n <= hi := by simp [inR]
def withinR (l : List Int) (n : Int) : Bool := l.all fun y => inR y 0 (n - 1)
theorem within_iff {l : List Int} {n : Int} : withinR l n = true ↔ ∀ i : Int, 0 <= i -> i < l.length -> 0 <= l.getD i.toNat 0 /\ l.getD i.toNat 0 < n := by
 simp only [withinR, List.all_eq_true, inR, Bool.and_eq_true, decide_eq_true_eq]
 constructor
 ·intro h i h0 h1
  have := h _ (getD_mem l 0 h0 h1)
  omega
 ·intro h x hx
  obtain ⟨k, hk, rfl⟩ := List.getElem_of_mem hx
  have := h k (by omega) (by omega)
  rw [Int.toNat_natCast, List.getD_eq_getElem?_getD, List.getElem?_eq_getElem hk] at this
  simp only [Option.getD_some] at this
  omega
def allB : Nat -> (Int -> Bool) -> Bool
 | 0, _ => true
 | n + 1, p => allB n p && p n
theorem allB_iff {p : Int -> Bool} : ∀ {n : Nat}, allB n p = true ↔ ∀ i : Int, 0 <= i -> i < n -> p i = true
 | 0 => by simp only [allB, true_iff]; intro i h0 h1; omega
 | n + 1 => by
  simp only [allB, Bool.and_eq_true, allB_iff (n := n)]
  constructor
  ·rintro ⟨h1, h2⟩ i h0 hi
   by_cases e : i = n
   ·rw [e]; exact h2
   ·exact h1 i h0 (by omega)
  ·intro h
   exact ⟨fun i h0 h1 => h i h0 (by omega), h n (by omega) (by omega)⟩
def scanR {α : Type} (p : Int -> Option α) : Nat -> Int -> Option α
 | 0, _ => none
 | k + 1, i => match p i with | some r => some r | none => scanR p k (i + 1)
theorem scan_s {α : Type} {p : Int -> Option α} {n i : Int} {r : α} (h : i < n) (hp : p i = some r) : scanR p (n - i).toNat i = some r := by
 rw [show (n - i).toNat = (n - (i + 1)).toNat + 1 from by omega, scanR, hp]
theorem scan_c {α : Type} {p : Int -> Option α} {n i : Int} (h : i < n) (hp : p i = none) : scanR p (n - i).toNat i = scanR p (n - (i + 1)).toNat (i + 1) := by
 rw [show (n - i).toNat = (n - (i + 1)).toNat + 1 from by omega, scanR, hp]
theorem scan_n {α : Type} {p : Int -> Option α} {n : Int} : scanR p (n - n).toNat n = none := by
 rw [show (n - n).toNat = 0 from by omega, scanR]
theorem scan_0 {α : Type} {p : Int -> Option α} {n : Nat} : scanR p n 0 = scanR p ((n : Int) - 0).toNat 0 := by rw [show ((n : Int) - 0).toNat = n from by omega]
def orR {α : Type} : Option α -> α -> α
 | some x, _ => x
 | none, y => y
def selR : Nat -> (Int -> Bool) -> List Int
 | 0, _ => []
 | n + 1, p => if p n = true then selR n p ++ [(n : Int)] else selR n p
theorem sel_t {p : Int -> Bool} {i : Int} (h0 : 0 <= i) (h : p i = true) : selR (i + 1).toNat p = selR i.toNat p ++ [i] := by
 rw [show (i + 1).toNat = i.toNat + 1 from by omega, selR, show ((i.toNat : Nat) : Int) = i from by omega, if_pos h]
theorem sel_f {p : Int -> Bool} {i : Int} (h0 : 0 <= i) (h : p i = false) : selR (i + 1).toNat p = selR i.toNat p := by
 rw [show (i + 1).toNat = i.toNat + 1 from by omega, selR, show ((i.toNat : Nat) : Int) = i from by omega, if_neg (by rw [h]; simp)]
theorem sel_len {p : Int -> Bool} : ∀ n : Nat, (selR n p).length <= n
 | 0 => Nat.le_refl _
 | n + 1 => by
  have := sel_len (p := p) n
  unfold selR
  split
  ·rw [List.length_append]; simp; omega
  ·omega
theorem sel_mem {p : Int -> Bool} {x : Int} : ∀ {n : Nat}, x ∈ selR n p ↔ 0 <= x /\ x < n /\ p x = true
 | 0 => by simp only [selR, List.not_mem_nil, false_iff]; omega
 | n + 1 => by
  unfold selR
  split
  ·rename_i h
   rw [List.mem_append, sel_mem, List.mem_singleton]
   constructor
   ·rintro (⟨a, b, c⟩ | rfl)
    ·exact ⟨a, by omega, c⟩
    ·exact ⟨by omega, by omega, h⟩
   ·rintro ⟨a, b, c⟩
    by_cases e : x = n
    ·exact .inr e
    ·exact .inl ⟨a, by omega, c⟩
  ·rename_i h
   rw [sel_mem]
   constructor
   ·rintro ⟨a, b, c⟩; exact ⟨a, by omega, c⟩
   ·rintro ⟨a, b, c⟩
    by_cases e : x = n
    ·subst e; exact absurd c h
    ·exact ⟨a, by omega, c⟩
theorem sel_congr {p q : Int -> Bool} : ∀ {n : Nat}, (∀ i : Int, 0 <= i -> i < n -> p i = q i) -> selR n p = selR n q
 | 0, _ => rfl
 | n + 1, h => by
  unfold selR
  rw [h n (by omega) (by omega), sel_congr fun i h0 h1 => h i h0 (by omega)]
theorem set_getD {α : Type} (l : List α) (k y : Nat) (x d : α) (hk : k < l.length) : (l.set k x).getD y d = if k = y then x else l.getD y d := by
 rw [List.getD_eq_getElem?_getD, List.getD_eq_getElem?_getD, List.getElem?_set]
 split
 ·rename_i h; subst h; simp [hk]
 ·rfl
def tabN {α : Type} : Nat -> (Int -> α) -> List α
 | 0, _ => []
 | n + 1, f => tabN n f ++ [f n]
theorem tabN_len {α : Type} {f : Int -> α} : ∀ n : Nat, (tabN n f).length = n
 | 0 => rfl
 | n + 1 => by simp [tabN, tabN_len n]
theorem tabN_get {α : Type} {f : Int -> α} {d : α} {i : Int} : ∀ {n : Nat}, 0 <= i -> i < n -> (tabN n f).getD i.toNat d = f i
 | 0, h0, h1 => by omega
 | n + 1, h0, h1 => by
  unfold tabN
  by_cases e : i = n
  ·subst e
   rw [List.getD_eq_getElem?_getD, List.getElem?_append_right (by rw [tabN_len]; omega), tabN_len]
   simp
  ·rw [List.getD_eq_getElem?_getD, List.getElem?_append_left (by rw [tabN_len]; omega), ← List.getD_eq_getElem?_getD]
   exact tabN_get h0 (by omega)
theorem tabN_congr {α : Type} {f g : Int -> α} : ∀ {n : Nat}, (∀ i : Int, 0 <= i -> i < n -> f i = g i) -> tabN n f = tabN n g
 | 0, _ => rfl
 | n + 1, h => by
  unfold tabN
  rw [h n (by omega) (by omega), tabN_congr fun i h0 h1 => h i h0 (by omega)]
theorem tab_rep {α : Type} (x : α) : ∀ n : Nat, List.replicate n x = tabN n fun _ => x
 | 0 => rfl
 | n + 1 => by rw [List.replicate_succ', tabN, tab_rep x n]
theorem tab_set {α : Type} {f : Int -> α} {x : α} {k : Int} : ∀ {n : Nat}, 0 <= k -> k < n -> (tabN n f).set k.toNat x = tabN n fun y => if y = k then x else f y
 | 0, h0, h1 => by omega
 | n + 1, h0, h1 => by
  unfold tabN
  by_cases e : k = n
  ·subst e
   rw [List.set_append, if_neg (by rw [tabN_len]; omega), tabN_len]
   simp only [Int.toNat_natCast, Nat.sub_self, List.set_cons_zero, if_true]
   rw [tabN_congr (g := fun y => if y = (n : Int) then x else f y) fun i i0 i1 => by rw [if_neg (by omega)]]
  ·rw [List.set_append, if_pos (by rw [tabN_len]; omega), tab_set h0 (by omega)]; dsimp only; rw [if_neg (Ne.symm e)]
theorem all_take {α : Type} {p : α -> Bool} (l : List α) (d : α) {i : Int} (h0 : 0 <= i) (h1 : i < l.length) : (l.take (i + 1).toNat).all p = ((l.take i.toNat).all p && p (l.getD i.toNat d)) := by
 rw [take_c l d h0 h1, List.all_append]; simp
theorem room_of {n m b : Nat} (h : (n + m) * b <= 140737488355328) : room n m b := by unfold room; rw [nb_eq]; exact h
def anyB : Nat -> (Int -> Bool) -> Bool
 | 0, _ => false
 | n + 1, p => anyB n p || p n
theorem anyB_s {p : Int -> Bool} {i : Int} (h0 : 0 <= i) : anyB (i + 1).toNat p = (anyB i.toNat p || p i) := by
 rw [show (i + 1).toNat = i.toNat + 1 from by omega, anyB, show ((i.toNat : Nat) : Int) = i from by omega]
theorem loop_ixa {α : Type} (F : Int -> α) {n i0 : Int} {a0 : α} {body : (Unit × (Int × Unit)) × (α × Unit) -> ((Unit × (Int × Unit)) × (α × Unit) -> Prop) -> Prop} (hn : i0 <= n) (h0 : a0 = F i0)
  (hs : ∀ i next, i0 <= i -> i < n -> next (((), (i + 1, ())), (F (i + 1), ())) -> body (((), (i, ())), (F i, ())) next) (he : ∀ next, body (((), (n, ())), (F n, ())) next) : loopW body (((), (i0, ())), (a0, ())) := by
 refine loop_of (fun s => s.2.1 = F s.1.2.1 /\ i0 <= s.1.2.1 /\ s.1.2.1 <= n) (fun s => (n - s.1.2.1).toNat) ?_ ⟨h0, Int.le_refl _, hn⟩
 rintro ⟨⟨_, i, _⟩, y, _⟩ next ⟨hy, h1, h2⟩ hnx
 dsimp only at hy h1 h2 hnx
 subst hy
 by_cases e : i = n
 ·subst e; exact he next
 ·exact hs i next h1 (by omega) (hnx _ ⟨rfl, by dsimp only; omega, by dsimp only; omega⟩ (by dsimp only; omega))
theorem loop_all {α : Type} (l : List α) (d : α) (p : α -> Bool) {body : (Int × Unit) × Unit -> ((Int × Unit) × Unit -> Prop) -> Prop}
  (hs : ∀ (i : Int) next, 0 <= i -> i < l.length -> (p (l.getD i.toNat d) = false -> l.all p = false) -> (p (l.getD i.toNat d) = true -> next ((i + 1, ()), ())) -> body ((i, ()), ()) next)
  (he : ∀ next, l.all p = true -> body (((l.length : Int), ()), ()) next) : loopW body ((0, ()), ()) := by
 refine loop_ix (n := l.length) (fun i => (l.take i.toNat).all p = true) (by omega) (by simp) ?_ ?_
 ·intro i next i0 i1 hP hn
  have ht := all_take (p := p) l d i0 i1
  rw [hP, Bool.true_and] at ht
  rw [ht] at hn
  exact hs i next i0 i1 (fun h => by rw [List.all_eq_false]; exact ⟨_, getD_mem l d i0 i1, by rw [h]; simp⟩) hn
 ·intro next hP
  rw [take_n _ (Int.le_refl _)] at hP
  exact he next hP
theorem tab_self {α : Type} (d : α) : ∀ l : List α, tabN l.length (fun i => l.getD i.toNat d) = l := by
 intro l
 refine List.ext_getElem (tabN_len _) fun k h1 h2 => ?_
 rw [tabN_len] at h1
 have := @tabN_get α (fun i => l.getD i.toNat d) d (k : Int) l.length (by omega) (by omega)
 rw [Int.toNat_natCast, List.getD_eq_getElem?_getD, List.getElem?_eq_getElem (by rw [tabN_len]; exact h1), List.getD_eq_getElem?_getD, List.getElem?_eq_getElem h1] at this
 exact this
theorem map_tab {α β : Type} (h : α -> β) (d : α) (l : List α) : tabN l.length (fun i => h (l.getD i.toNat d)) = l.map h := by
 have h1 : ∀ n : Nat, (tabN n fun i => l.getD i.toNat d).map h = tabN n fun i => h (l.getD i.toNat d) := by
  intro n
  induction n with
  | zero => rfl
  | succ n ih => simp only [tabN, List.map_append, ih, List.map_cons, List.map_nil]
 rw [← h1, tab_self]
theorem fill_s {α : Type} {g h : Int -> α} {n : Nat} {i : Int} (h0 : 0 <= i) (h1 : i < n) : (tabN n fun y => if y < i then g y else h y).set i.toNat (g i) = tabN n fun y => if y < i + 1 then g y else h y := by
 rw [tab_set h0 h1]
 refine tabN_congr fun y _ _ => ?_
 by_cases e : y = i
 ·subst e; rw [if_pos rfl, if_pos (by omega)]
 ·rw [if_neg e]
  by_cases e2 : y < i
  ·rw [if_pos e2, if_pos (by omega)]
  ·rw [if_neg e2, if_neg (by omega)]
theorem fill_0 {α : Type} {g h : Int -> α} {n : Nat} : (tabN n fun y => if y < 0 then g y else h y) = tabN n h := tabN_congr fun y h0 _ => by rw [if_neg (by omega)]
theorem fill_n {α : Type} {g h : Int -> α} {n : Nat} : (tabN n fun y => if y < (n : Int) then g y else h y) = tabN n g := tabN_congr fun y _ h1 => by rw [if_pos h1]
end Go.Bm
