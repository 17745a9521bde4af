/- For every input the law FnSchemaCategories returns true and each argument reads afterwards as it read before; the variable of package errors reads as its own initialiser lays it, which the tie says. -/
import Derived.Test.YtpmjngfhnebmaaaGreatDoorTie
import Derived.Test.YtpmjngfhnebmaaaGreatDoorCards
import Derived.WalkKit
import Derived.ProofKit
import Derived.OpenShut
import Derived.ShutString
import Derived.ChangeOld
import Derived.Below
import Derived.Carry
import Derived.SizedLaws
import Derived.ChangeSame
import Derived.ChangeVars
import Derived.JoinedOf
import Derived.RowKit
import Derived.RowKitTokens
import Derived.LaidLaws
import Derived.LaidHandle
import Derived.Stop.Joined
import Derived.SevenTiedAt
import Derived.Test.YtpmjngfhnebmaaaGreatDoorFnSchemaCategoriesFnsE
namespace Go.Proofs.YtpmjngfhnebmaaaGreatDoor.fnSchemaCategories
open Go.ChangeShapes Go.WideShapes Go.ChangeAt Go.RowKit
set_option linter.unusedVariables false

theorem own : ownKnob Tryz.prog.godebug = none := by kernel_rfl
theorem laidOut : laidOutB Tryz.prog = true := by kernel_rfl
/-- what the condition gives: what package errors keeps lies there -/
theorem err_of_laid {W : World} (h : laidMetH Tryz.prog Rows.fnSchemaCategoriesRow.laid W) : Bm.ErrG Tryz.prog (fun b => b < W.heap.size) W := fun g hg => by
  have h' : laidMet Tryz.prog [] W ∧ handlesMet Tryz.prog Rows.fnSchemaCategoriesRow.laid W := h
  obtain ⟨nm, u, ty, e1, e2, e3, e4, e5⟩ := h'.2 _ (List.mem_singleton.2 rfl)
  have en : nm = [101, 114, 114, 111, 114] := (Option.some.inj e1).symm
  subst en
  have hc : W.cell? ⟨g, 0, none⟩ = some (.iface u (.agg #[typeHandle Tryz.prog ty])) := by simpa using World.var?_cell hg e5 0
  exact ⟨Bm.cell_lt hc, u, ty, e2, e3, e4, hc⟩
/-- A world that meets the condition. -/
noncomputable def laidWorld (os : Os) : World :=
  let w0 := World.holding Tryz.prog os ⟨#[], #[], []⟩
  { w0 with heap := w0.heap.modify 0 fun
      | .cells _ t frozen => .cells #[.iface 155 (.agg #[.pointer (some ⟨1, 79, none⟩)])] t frozen
      | o => o }
theorem laidWorld_met (os : Os) (args : Array Value) : laidMetH Tryz.prog Rows.fnSchemaCategoriesRow.laid ((laidWorld os).forCall (fun _ _ => 0) ⟨#[], args, []⟩).memory :=
  laidMetH_of_parts (laidMet_nil _ _) (by kernel_rfl)

set_option maxRecDepth 100000 in
theorem lifted (os : Os) (started : os.Started) (H : Type) (enc : TypeId × Value → H) :
    ReturnsInHanded {} Tryz.checked os 3 .any (fun w args => (Rows.fnSchemaCategoriesSpec.pre enc Tryz.prog Tryz.f3 Rows.fnSchemaCategoriesRow.domain false w args ∧ laidMetH Tryz.prog Rows.fnSchemaCategoriesRow.laid w) ∧ sizedMet enc Tryz.prog Tryz.f3 (OpenSpec.ofChange Rows.fnSchemaCategoriesSpec) false w args) (Rows.fnSchemaCategoriesSpec.post enc Tryz.prog Tryz.f3 false true false false) := by
  refine returnsInHanded_of_change_and (C := Tryz.checked) (X := fun w _ => laidMetH Tryz.prog Rows.fnSchemaCategoriesRow.laid w) (fun _ _ _ hh h => h.of_heap hh) own started (by kernel_rfl) Tryz.func3
    (ChangeSpec.witness_at (enc := enc) (C := Tryz.checked) (os := os) (X := fun w _ => laidMetH Tryz.prog Rows.fnSchemaCategoriesRow.laid w) false (laidWorld os) #[.slice none 0 0] 8 rfl (by kernel_rfl) (by kernel_rfl) (by kernel_rfl) (by kernel_rfl) (by kernel_rfl) (laidWorld_met os _)) ?_
  intro W base args ds gs before hval0 hW hcnd hsz0 hL _
  have hE := err_of_laid hL
  have hval : ∀ (j : Nat) t v, Tryz.f3.params[j]? = some t → args[j]? = some v → Value.okWide Tryz.prog W .any base t v := hval0
  have hsz : (DataW.weightsEach Tryz.prog (Tryz.f3.params.toList ++ Rows.fnSchemaCategoriesSpec.plain.varTypes Tryz.prog) (ds ++ gs)).all (· ≤ reachBytes) = true := hsz0
  have hW' := hW
  obtain ⟨p, q, hA0, hV, rfl, hfz, hnd⟩ := hW
  have hA : DataW.TrodAll enc Tryz.prog W 0 (fun _ => true) true Tryz.f3.params.toList args.toList ds p := hA0
  rw [Tryz.params3] at hA hval hsz
  obtain ⟨v0, vs0, d0, ds0, p0, q0, hargs, rfl, rfl, h0, r0⟩ := trodAll_cons hA
  obtain ⟨rfl, rfl, rfl⟩ := trodAll_nil r0
  obtain rfl : args = #[v0] := by cases args; simp_all
  obtain ⟨rfl, rfl⟩ := trodVars_none hV
  have hs : (DataW.weightsEach Tryz.prog [22] [d0]).all (· ≤ reachBytes) = true := hsz
  simp only [DataW.weightsEach, List.all_append, Bool.and_eq_true] at hs
  have lt0 : ∀ x ∈ p0, x.block < W.heap.size := by obtain ⟨m, hm⟩ := h0; exact DataW.trod_lt m _ _ _ hm
  obtain ⟨y0, cs0, a0, b0, rel0⟩ := Bm.open_arg 12 (.sl (.int .u8)) false (by kernel_rfl) (by kernel_rfl) (hval 0 22 v0 rfl rfl) h0 hs.1
  clear hA0 hval0
  refine (Bm.law_of_ct (args := Bm.c_laws_FnSchemaCategories.args) (ga := Bm.c_laws_FnSchemaCategories.ga) (vs := [v0]) (x := (y0, ())) Bm.ct_laws_FnSchemaCategories hE ⟨v0, _, cs0, rfl, a0, b0, rel0, rfl⟩).mono fun e W' ⟨he, bel⟩ => ?_
  subst he
  exact ⟨_, rfl, _, _, _, [], _, [], hW', trodAll_mk1 (shut_bool Tryz.underlying4 _), (trodAll_cons_mk (Below.trod laidOut (by kernel_rfl) (of_decide_eq_true (by kernel_rfl)) h0 bel lt0) trodAll_mk0), rfl, bel.frame _, fun h => by cases h⟩

theorem over : Rows.fnSchemaCategoriesRow.holds Tryz.pinned (OpenSpec.ofChange Rows.fnSchemaCategoriesSpec) :=
  OpenClaim.holds_of_wide 3 Tryz.f3 rfl rfl rfl rfl rfl rfl rfl ⟨rfl, rfl, rfl, rfl, rfl⟩ rfl rfl rfl rfl rfl (by kernel_rfl) Tryz.func3 (by kernel_rfl)
    (of_decide_eq_true (by kernel_rfl)) (by unfold Func.isWrapper; first | (rw [if_pos (by decide +kernel)]; kernel_rfl) | (rw [if_neg (by decide +kernel)]; exact ⟨rfl, rfl⟩))
    (fun os started H enc _ => lifted os started H enc)

theorem want : ∀ t ∈ Tryz.f3.params.toList, Tryz.prog.wantsStandIn t = false := by
  rw [Tryz.params3]
  intro t ht
  simp only [List.mem_cons, List.not_mem_nil, or_false] at ht
  rcases ht with rfl <;> kernel_rfl

theorem proved : Rows.FnSchemaCategoriesCardSaid :=
  Claim7.holds_tied_plain_at .later [] [.handle] true (true, "cd7de95f44f82f51624562e4468b1eddac54f0cb09fc5578cd456bd0acf60b60") true
    over (fun _ h => by cases h) (by kernel_rfl) (fun _ h => by cases h) fnSchemaCategories_row_tie rfl ⟨rfl, rfl⟩ (by kernel_rfl) rfl
    (fun f fn hf hfn => by
      obtain rfl : f = 3 := (Option.some.inj ((show Tryz.prog.funcNamed "loop.example/g01083/laws.FnSchemaCategories" = some 3 by kernel_rfl).symm.trans hf)).symm
      obtain rfl : fn = Tryz.f3 := (Option.some.inj (Tryz.func3.symm.trans hfn)).symm
      exact ⟨by kernel_rfl, fun j t ht => want t (List.mem_of_getElem? (by simpa using ht))⟩)
    (by kernel_rfl)
#print axioms proved
end Go.Proofs.YtpmjngfhnebmaaaGreatDoor.fnSchemaCategories
