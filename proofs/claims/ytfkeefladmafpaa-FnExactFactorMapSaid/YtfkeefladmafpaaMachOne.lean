/- The abstract machine that the walks of this claim go by: its data, its operations and the proof that each is sound. No condition. -/
import Derived.WalkKit
set_option linter.unusedVariables false
/- The abstract machine: data, abstract values, and what a machine value and a world have to do with them. -/
namespace Go.Am
open Go.RowKit

/-- Data: one cell's content, read as a tree. -/
inductive D where
  | any
  | int (k : IntKind) (n : Int)
  | bool (b : Bool)
  | str (s : ByteArray)
  | raw (v : Value)
  | seq (sz n : Nat) (f : Nat → List D)
  | ptr (cs : List D)

/-- What a slot may hold. -/
inductive AV where
  | any
  | d (x : D)
  | own (k : Nat)
  | box (k o : Nat)
  | elt (k sz i j : Nat)
  | agg (l : List AV)
  | tup (l : List AV)
  | gd (p : Prop) (v : AV)
  | fn (f : FuncId) (l : List AV)

/-- An object of the function's own. -/
inductive AObj where
  | arr (fr : Bool) (e : TypeId) (sz n : Nat) (f : Nat → List D)
  | cells (ty : TypeId) (l : List AV)

/-- The most that a slice that is read may hold. -/
def nb : Nat := 140737488355328

mutual
def RelD (Im : Nat → Prop) (w : World) : D → Value → Prop
  | .any, _ => True
  | .int k n, v => v = .int k n ∧ k.min ≤ n ∧ n ≤ k.max
  | .bool b, v => v = .bool b
  | .str s, v => v = .string s ∧ s.size ≤ nb
  | .raw u, v => v = u
  | .seq sz n f, v => ∃ oa cap, v = .slice oa n cap ∧ n ≤ nb ∧ (oa = none → n = 0 ∧ cap = 0) ∧
      ∀ a, oa = some a → 0 < n → a.spot = none ∧ Im a.block ∧ ∀ i, i < n → RelC Im w (f i) a.block (a.off + i * sz)
  | .ptr cs, v => ∃ b o, v = .pointer (some ⟨b, o, none⟩) ∧ Im b ∧ RelC Im w cs b o
def RelC (Im : Nat → Prop) (w : World) : List D → Nat → Nat → Prop
  | [], _, _ => True
  | x :: r, b, o => (∃ u, w.cell? ⟨b, o, none⟩ = some u ∧ RelD Im w x u) ∧ RelC Im w r b (o + 1)
end

mutual
def RelV (β : Nat → Value) (Im : Nat → Prop) (w : World) : AV → Value → Prop
  | .any, _ => True
  | .d x, v => RelD Im w x v
  | .own k, v => v = β k
  | .box k o, v => ∃ b, β k = .pointer (some ⟨b, 0, none⟩) ∧ v = .pointer (some ⟨b, o, none⟩)
  | .elt k sz i j, v => ∃ b n cap, β k = .slice (some ⟨b, 0, none⟩) n cap ∧ v = .pointer (some ⟨b, i * sz + j, none⟩)
  | .agg l, v => ∃ vs : List Value, v = .agg vs.toArray ∧ RelL β Im w l vs
  | .tup l, v => ∃ vs : List Value, v = .tuple vs.toArray ∧ RelL β Im w l vs
  | .gd p x, v => (p → RelV β Im w x v) ∧ (¬ p → v = undef)
  | .fn f l, v => ∃ vs : List Value, v = .func (.func f) #[] vs.toArray ∧ RelL β Im w l vs
def RelL (β : Nat → Value) (Im : Nat → Prop) (w : World) : List AV → List Value → Prop
  | [], vs => vs = []
  | x :: r, vs => ∃ u us, vs = u :: us ∧ RelV β Im w x u ∧ RelL β Im w r us
end

/-- A list of data against a list of values. -/
def RelDs (Im : Nat → Prop) (w : World) : List D → List Value → Prop
  | [], vs => vs = []
  | x :: r, vs => ∃ u us, vs = u :: us ∧ RelD Im w x u ∧ RelDs Im w r us

/-- The block of an own object. -/
def root : Value → Option Nat
  | .slice (some a) _ _ => some a.block
  | .pointer (some a) => some a.block
  | _ => none

/-- No block is looked at. -/
def D.flat : D → Bool
  | .int _ _ => true
  | .bool _ => true
  | .str _ => true
  | .raw _ => true
  | _ => false

/-! Data that owns its blocks: all of them lie in S, no two slices share one. -/
mutual
def OwnD (w : World) : D → (Nat → Prop) → Value → Prop
  | .seq sz n f, S, v => ∃ e xs, ∃ T : Nat → Nat → Prop, w.ownsRow 0 e sz v n xs ∧ n ≤ nb ∧ (∀ b, root v = some b → S b) ∧ (∀ i b, T i b → S b ∧ root v ≠ some b) ∧
      (∀ i j b, i ≠ j → T i b → ¬ T j b) ∧ ∀ i, i < n → OwnC w (f i) (T i) ((xs.drop (i * sz)).take sz)
  | .any, _, _ => False
  | .ptr _, _, _ => False
  | .int k n, _, v => v = .int k n ∧ k.min ≤ n ∧ n ≤ k.max
  | .bool b, _, v => v = .bool b
  | .str s, _, v => v = .string s ∧ s.size ≤ nb
  | .raw u, _, v => v = u
def OwnC (w : World) : List D → (Nat → Prop) → List Value → Prop
  | [], _, vs => vs = []
  | x :: r, S, vs => ∃ u us, ∃ S1 S2 : Nat → Prop, vs = u :: us ∧ (∀ b, S1 b → S b ∧ ¬ S2 b) ∧ (∀ b, S2 b → S b) ∧ OwnD w x S1 u ∧ OwnC w r S2 us
end

def RelO (β : Nat → Value) (ρ Im : Nat → Prop) (w : World) : AObj → Value → Prop
  | .arr true e sz n f, v => ∃ xs, ∃ T : Nat → Nat → Prop, w.ownsRow 0 e sz v n xs ∧ n ≤ nb ∧ (∀ i b, T i b → ρ b) ∧
      (∀ i j b, i ≠ j → T i b → ¬ T j b) ∧ ∀ i, i < n → OwnC w (f i) (T i) ((xs.drop (i * sz)).take sz)
  | .arr false e sz n f, v => ∃ xs, w.ownsRow 0 e sz v n xs ∧ n ≤ nb ∧ ∀ i, i < n → RelDs Im w (f i) ((xs.drop (i * sz)).take sz)
  | .cells ty l, v => ∃ b vs, v = .pointer (some ⟨b, 0, none⟩) ∧ w.heap[b]? = some (.cells vs ty (0, 0)) ∧ RelL β Im w l vs.toList

/-! ### what is kept when the world turns elsewhere -/

/-- Blocks that may be read are as they were. -/
def Keep (Im Im' : Nat → Prop) (w w' : World) : Prop := ∀ b, Im b → Im' b ∧ w'.heap[b]? = w.heap[b]?

theorem Keep.refl (Im : Nat → Prop) (w : World) : Keep Im Im w w := fun _ h => ⟨h, rfl⟩
theorem Keep.trans {I1 I2 I3 : Nat → Prop} {a b c : World} (h : Keep I1 I2 a b) (k : Keep I2 I3 b c) : Keep I1 I3 a c :=
  fun x hx => ⟨(k x (h x hx).1).1, ((k x (h x hx).1).2).trans (h x hx).2⟩

mutual
theorem RelD.keep {Im Im' : Nat → Prop} {w w' : World} (h : Keep Im Im' w w') : (x : D) → (v : Value) → RelD Im w x v → RelD Im' w' x v
  | .any, v, r => by simp only [RelD]
  | .int k n, v, r => by simpa only [RelD] using r
  | .bool b, v, r => by simpa only [RelD] using r
  | .str s, v, r => by simpa only [RelD] using r
  | .raw u, v, r => by simpa only [RelD] using r
  | .seq sz n f, v, r => by
    simp only [RelD] at r ⊢
    obtain ⟨oa, cap, hv, hn, hnone, hs⟩ := r
    refine ⟨oa, cap, hv, hn, hnone, fun a ha hpos => ?_⟩
    obtain ⟨h1, h2, h3⟩ := hs a ha hpos
    exact ⟨h1, (h _ h2).1, fun i hi => RelC.keep h (f i) _ _ (h _ h2).2 (h3 i hi)⟩
  | .ptr cs, v, r => by
    simp only [RelD] at r ⊢
    obtain ⟨b, o, hv, hb, hc⟩ := r
    exact ⟨b, o, hv, (h _ hb).1, RelC.keep h cs _ _ (h _ hb).2 hc⟩
theorem RelC.keep {Im Im' : Nat → Prop} {w w' : World} (h : Keep Im Im' w w') : (l : List D) → (b o : Nat) → w'.heap[b]? = w.heap[b]? → RelC Im w l b o → RelC Im' w' l b o
  | [], _, _, _, _ => by simp only [RelC]
  | x :: r, b, o, hb, hr => by
    simp only [RelC] at hr ⊢
    obtain ⟨⟨u, hu, hx⟩, hr⟩ := hr
    exact ⟨⟨u, by rw [← hu]; simp [World.cell?, hb], RelD.keep h x u hx⟩, RelC.keep h r b (o + 1) hb hr⟩
end

theorem RelDs.keep {Im Im' : Nat → Prop} {w w' : World} (h : Keep Im Im' w w') : (l : List D) → (vs : List Value) → RelDs Im w l vs → RelDs Im' w' l vs
  | [], vs, r => by simpa only [RelDs] using r
  | x :: l, vs, r => by
    simp only [RelDs] at r ⊢
    obtain ⟨u, us, hv, hx, hr⟩ := r
    exact ⟨u, us, hv, RelD.keep h x u hx, RelDs.keep h l us hr⟩

/-! Does an abstract value speak of object k? -/
mutual
def AV.has (k : Nat) : AV → Bool
  | .any => false
  | .d _ => false
  | .own j => j == k
  | .box j _ => j == k
  | .elt j _ _ _ => j == k
  | .agg l => AV.hasL k l
  | .tup l => AV.hasL k l
  | .gd _ v => v.has k
  | .fn _ l => AV.hasL k l
def AV.hasL (k : Nat) : List AV → Bool
  | [] => false
  | x :: r => x.has k || AV.hasL k r
end

mutual
theorem RelV.keep {β β' : Nat → Value} {Im Im' : Nat → Prop} {w w' : World} (h : Keep Im Im' w w') : (x : AV) → (∀ k, x.has k = true → β' k = β k) → (v : Value) → RelV β Im w x v → RelV β' Im' w' x v
  | .any, _, v, r => by simp only [RelV]
  | .d x, _, v, r => by simp only [RelV] at r ⊢; exact RelD.keep h x v r
  | .own k, hk, v, r => by simp only [RelV] at r ⊢; rw [hk k (by simp [AV.has])]; exact r
  | .box k o, hk, v, r => by simp only [RelV] at r ⊢; rw [hk k (by simp [AV.has])]; exact r
  | .elt k sz i j, hk, v, r => by simp only [RelV] at r ⊢; rw [hk k (by simp [AV.has])]; exact r
  | .agg l, hk, v, r => by
    simp only [RelV] at r ⊢
    obtain ⟨vs, hv, hl⟩ := r
    exact ⟨vs, hv, RelL.keep h l (fun k h' => hk k (by simpa [AV.has] using h')) vs hl⟩
  | .tup l, hk, v, r => by
    simp only [RelV] at r ⊢
    obtain ⟨vs, hv, hl⟩ := r
    exact ⟨vs, hv, RelL.keep h l (fun k h' => hk k (by simpa [AV.has] using h')) vs hl⟩
  | .gd p x, hk, v, r => by
    simp only [RelV] at r ⊢
    exact ⟨fun hp => RelV.keep h x (fun k h' => hk k (by simpa [AV.has] using h')) v (r.1 hp), r.2⟩
  | .fn f l, hk, v, r => by
    simp only [RelV] at r ⊢
    obtain ⟨vs, hv, hl⟩ := r
    exact ⟨vs, hv, RelL.keep h l (fun k h' => hk k (by simpa [AV.has] using h')) vs hl⟩
theorem RelL.keep {β β' : Nat → Value} {Im Im' : Nat → Prop} {w w' : World} (h : Keep Im Im' w w') : (l : List AV) → (∀ k, AV.hasL k l = true → β' k = β k) → (vs : List Value) → RelL β Im w l vs → RelL β' Im' w' l vs
  | [], _, vs, r => by simpa only [RelL] using r
  | x :: l, hk, vs, r => by
    simp only [RelL] at r ⊢
    obtain ⟨u, us, hv, hx, hr⟩ := r
    exact ⟨u, us, hv, RelV.keep h x (fun k h' => hk k (by simp [AV.hasL, h'])) u hx, RelL.keep h l (fun k h' => hk k (by simp [AV.hasL, h'])) us hr⟩
end

def AObj.has (k : Nat) : AObj → Bool
  | .arr .. => false
  | .cells _ l => AV.hasL k l

theorem root_slice {b n cap : Nat} {v : Value} (h : v = .slice (some ⟨b, 0, none⟩) n cap) : root v = some b := by subst h; rfl

theorem ownsRow_keep {w w' : World} {e : TypeId} {sz n : Nat} {v : Value} {xs : List Value} (hr : ∀ b, root v = some b → w'.heap[b]? = w.heap[b]?) (hown : w.ownsRow 0 e sz v n xs) : w'.ownsRow 0 e sz v n xs := by
  refine ⟨hown.1, ?_⟩
  rcases hown.2 with hnil | ⟨g, cap, cur, hv, hb, hg, rest⟩
  · exact .inl hnil
  · exact .inr ⟨g, cap, cur, hv, hb, by rw [hr g (by rw [hv]; rfl)]; exact hg, rest⟩

mutual
theorem OwnD.keep {w w' : World} : (x : D) → (S : Nat → Prop) → (∀ b, S b → w'.heap[b]? = w.heap[b]?) → (v : Value) → OwnD w x S v → OwnD w' x S v
  | .any, _, _, v, r => by simp only [OwnD] at r
  | .ptr _, _, _, v, r => by simp only [OwnD] at r
  | .int k n, _, _, v, r => by simpa only [OwnD] using r
  | .bool b, _, _, v, r => by simpa only [OwnD] using r
  | .str s, _, _, v, r => by simpa only [OwnD] using r
  | .raw u, _, _, v, r => by simpa only [OwnD] using r
  | .seq sz n f, S, h, v, r => by
    simp only [OwnD] at r ⊢
    obtain ⟨e, xs, T, h1, h2, h3, h4, h5, h6⟩ := r
    exact ⟨e, xs, T, ownsRow_keep (fun b hb => h b (h3 b hb)) h1, h2, h3, h4, h5, fun i hi => OwnC.keep (f i) (T i) (fun b hb => h b (h4 i b hb).1) _ (h6 i hi)⟩
theorem OwnC.keep {w w' : World} : (l : List D) → (S : Nat → Prop) → (∀ b, S b → w'.heap[b]? = w.heap[b]?) → (vs : List Value) → OwnC w l S vs → OwnC w' l S vs
  | [], _, _, _, r => by simpa only [OwnC] using r
  | x :: r, S, h, vs, hr => by
    simp only [OwnC] at hr ⊢
    obtain ⟨u, us, S1, S2, h1, h2, h3, h4, h5⟩ := hr
    exact ⟨u, us, S1, S2, h1, h2, h3, OwnD.keep x S1 (fun b hb => h b (h2 b hb).1) u h4, OwnC.keep r S2 (fun b hb => h b (h3 b hb)) us h5⟩
end

mutual
theorem OwnD.wide {w : World} : (x : D) → (S S' : Nat → Prop) → (∀ b, S b → S' b) → (v : Value) → OwnD w x S v → OwnD w x S' v
  | .any, _, _, _, v, r => by simp only [OwnD] at r
  | .ptr _, _, _, _, v, r => by simp only [OwnD] at r
  | .int k n, _, _, _, v, r => by simpa only [OwnD] using r
  | .bool b, _, _, _, v, r => by simpa only [OwnD] using r
  | .str s, _, _, _, v, r => by simpa only [OwnD] using r
  | .raw u, _, _, _, v, r => by simpa only [OwnD] using r
  | .seq sz n f, S, S', h, v, r => by
    simp only [OwnD] at r ⊢
    obtain ⟨e, xs, T, h1, h2, h3, h4, h5, h6⟩ := r
    exact ⟨e, xs, T, h1, h2, fun b hb => h b (h3 b hb), fun i b hb => ⟨h b (h4 i b hb).1, (h4 i b hb).2⟩, h5, h6⟩
end

theorem OwnC.wide {w : World} : (l : List D) → (S S' : Nat → Prop) → (∀ b, S b → S' b) → (vs : List Value) → OwnC w l S vs → OwnC w l S' vs
  | [], _, _, _, _, r => by simpa only [OwnC] using r
  | x :: r, S, S', h, vs, hr => by
    simp only [OwnC] at hr ⊢
    obtain ⟨u, us, S1, S2, h1, h2, h3, h4, h5⟩ := hr
    exact ⟨u, us, S1, S2, h1, fun b hb => ⟨h b (h2 b hb).1, (h2 b hb).2⟩, fun b hb => h b (h3 b hb), h4, h5⟩

theorem drop_take_cell {xs : List Value} {k sz : Nat} {u : Value} {us : List Value} (h : (xs.drop k).take sz = u :: us) : xs[k]? = some u ∧ (xs.drop (k + 1)).take (sz - 1) = us := by
  have h0 := congrArg (fun l : List Value => l[0]?) h
  have hsz : 0 < sz := by rcases Nat.eq_zero_or_pos sz with rfl | h'; · simp at h
                          · exact h'
  constructor
  · simpa [List.getElem?_take, hsz, List.getElem?_drop] using h0
  · have h1 := congrArg (fun l : List Value => l.drop 1) h
    simp only [List.drop_take, List.drop_drop, List.drop_succ_cons, List.drop_zero] at h1
    exact h1

/-- What owns its blocks can be read. -/
theorem own_cells {w : World} {e : TypeId} {sz n : Nat} {v : Value} {xs : List Value} (h : w.ownsRow 0 e sz v n xs) :
    (n = 0 ∧ v = .slice none 0 0) ∨ ∃ g cap, v = .slice (some ⟨g, 0, none⟩) n cap ∧ ∀ j u, xs[j]? = some u → w.cell? ⟨g, j, none⟩ = some u := by
  rcases h.2 with ⟨hv, hn⟩ | ⟨g, cap, cur, hv, hb, hg, h1, h2, h3, h4⟩
  · exact .inl ⟨hn, hv⟩
  · refine .inr ⟨g, cap, hv, fun j u hu => ?_⟩
    rw [cell_of_row w g j cur e (0, 0) hg]
    rw [← h4, List.getElem?_take] at hu
    split at hu
    · simpa using hu
    · cases hu

mutual
theorem OwnD.rel {w : World} {Im : Nat → Prop} : (x : D) → (S : Nat → Prop) → (∀ b, S b → Im b) → (v : Value) → OwnD w x S v → RelD Im w x v
  | .any, _, _, v, r => by simp only [RelD]
  | .ptr _, _, _, v, r => by simp only [OwnD] at r
  | .int k n, _, _, v, r => by simpa only [OwnD, RelD] using r
  | .bool b, _, _, v, r => by simpa only [OwnD, RelD] using r
  | .str s, _, _, v, r => by simpa only [OwnD, RelD] using r
  | .raw u, _, _, v, r => by simpa only [OwnD, RelD] using r
  | .seq sz n f, S, h, v, r => by
    simp only [OwnD] at r
    obtain ⟨e, xs, T, h1, h2, h3, h4, h5, h6⟩ := r
    simp only [RelD]
    rcases own_cells h1 with ⟨hn, hv⟩ | ⟨g, cap, hv, hc⟩
    · exact ⟨none, 0, by rw [hv, hn], h2, fun _ => ⟨hn, rfl⟩, fun a ha => by cases ha⟩
    · refine ⟨some ⟨g, 0, none⟩, cap, hv, h2, fun h => by (cases h), fun a ha hpos => ?_⟩
      cases ha
      refine ⟨rfl, h g (h3 g (by rw [hv]; rfl)), fun i hi => ?_⟩
      exact OwnC.rel (f i) (T i) (fun b hb => h b (h4 i b hb).1) xs g hc (0 + i * sz) sz (by simpa using h6 i hi)
theorem OwnC.rel {w : World} {Im : Nat → Prop} : (l : List D) → (S : Nat → Prop) → (∀ b, S b → Im b) → (xs : List Value) → (g : Nat) → (∀ j u, xs[j]? = some u → w.cell? ⟨g, j, none⟩ = some u) → (o sz : Nat) →
    OwnC w l S ((xs.drop o).take sz) → RelC Im w l g o
  | [], _, _, _, _, _, _, _, _ => by simp only [RelC]
  | x :: r, S, h, xs, g, hc, o, sz, hr => by
    simp only [OwnC] at hr
    obtain ⟨u, us, S1, S2, h1, h2, h3, h4, h5⟩ := hr
    obtain ⟨hu, hus⟩ := drop_take_cell h1
    simp only [RelC]
    refine ⟨⟨u, hc o u hu, OwnD.rel x S1 (fun b hb => h b (h2 b hb).1) u h4⟩, OwnC.rel r S2 (fun b hb => h b (h3 b hb)) xs g hc (o + 1) (sz - 1) (by rw [hus]; exact h5)⟩
end

theorem RelDs.cells {w : World} {Im : Nat → Prop} : (l : List D) → (xs : List Value) → (g : Nat) → (∀ j u, xs[j]? = some u → w.cell? ⟨g, j, none⟩ = some u) → (o sz : Nat) →
    RelDs Im w l ((xs.drop o).take sz) → RelC Im w l g o
  | [], _, _, _, _, _, _ => by simp only [RelC]
  | x :: r, xs, g, hc, o, sz, hr => by
    simp only [RelDs] at hr
    obtain ⟨u, us, h1, h2, h3⟩ := hr
    obtain ⟨hu, hus⟩ := drop_take_cell h1
    simp only [RelC]
    exact ⟨⟨u, hc o u hu, h2⟩, RelDs.cells r xs g hc (o + 1) (sz - 1) (by rw [hus]; exact h3)⟩

theorem OwnC.rels {w : World} {Im : Nat → Prop} : (l : List D) → (S : Nat → Prop) → (∀ b, S b → Im b) → (vs : List Value) → OwnC w l S vs → RelDs Im w l vs
  | [], _, _, vs, r => by simpa only [OwnC, RelDs] using r
  | x :: r, S, h, vs, hr => by
    simp only [OwnC] at hr
    obtain ⟨u, us, S1, S2, h1, h2, h3, h4, h5⟩ := hr
    simp only [RelDs]
    exact ⟨u, us, h1, OwnD.rel x S1 (fun b hb => h b (h2 b hb).1) u h4, OwnC.rels r S2 (fun b hb => h b (h3 b hb)) us h5⟩

theorem RelO.keep {β β' : Nat → Value} {ρ Im Im' : Nat → Prop} {w w' : World} (h : Keep Im Im' w w') (hρ : ∀ b, ρ b → Im b) (o : AObj) (hk : ∀ k, o.has k = true → β' k = β k) (v : Value)
    (hr : ∀ b, root v = some b → w'.heap[b]? = w.heap[b]?) (r : RelO β ρ Im w o v) : RelO β' ρ Im' w' o v := by
  match o, r, hk with
  | .arr true e sz n f, r, _ =>
    simp only [RelO] at r ⊢
    obtain ⟨xs, T, hown, hn, hT, hd, hx⟩ := r
    exact ⟨xs, T, ownsRow_keep hr hown, hn, hT, hd, fun i hi => OwnC.keep _ _ (fun b hb => (h b (hρ b (hT i b hb))).2) _ (hx i hi)⟩
  | .arr false e sz n f, r, _ =>
    simp only [RelO] at r ⊢
    obtain ⟨xs, hown, hn, hx⟩ := r
    exact ⟨xs, ownsRow_keep hr hown, hn, fun i hi => RelDs.keep h _ _ (hx i hi)⟩
  | .cells ty l, r, hk =>
    simp only [RelO] at r ⊢
    obtain ⟨b, vs, hv, hb, hl⟩ := r
    exact ⟨b, vs, hv, by rw [hr b (by rw [hv]; rfl)]; exact hb, RelL.keep h l (fun k h' => hk k (by simpa [AObj.has] using h')) _ hl⟩

/-! ### the state -/

/-- Slots. -/
def gt : List (Nat × AV) → Nat → AV
  | [], _ => .any
  | (k, v) :: r, t => if k = t then v else gt r t

def go : List (Nat × AObj) → Nat → Option AObj
  | [], _ => none
  | (k, v) :: r, t => if k = t then some v else go r t

/-- What a call began with: the world, the blocks that may be read, the blocks that may be written. -/
structure Fr where
  w0 : World
  A : Nat → Prop
  R : Nat → Prop
  nt : Nat
  np : Nat
  T : Nat → Value

/-- the slots that may be written -/
def Fr.ok (F : Fr) (k : Nat) : Prop := F.np ≤ k ∧ k < F.nt

/-- Where the own objects lie: each one's value, and the blocks that its elements own. -/
structure Pl where
  β : Nat → Value
  ρ : Nat → Nat → Prop

def Live (M : List (Nat × AObj)) (k : Nat) : Prop := (go M k).isSome = true

/-- The blocks that may be read and are not written. -/
def Imm (F : Fr) (p : Pl) (M : List (Nat × AObj)) (w : World) : Nat → Prop :=
  fun b => b < w.heap.size ∧ (F.A b ∨ F.R b ∨ F.w0.heap.size ≤ b) ∧ ∀ k, Live M k → root (p.β k) ≠ some b

/-- Objects from this number on were handed in. -/
def gid : Nat := 1000000

/-- The heap's part of the state. -/
structure Hp (F : Fr) (p : Pl) (M : List (Nat × AObj)) (w : World) : Prop where
  objs : ∀ k o, go M k = some o → RelO p.β (p.ρ k) (Imm F p M w) w o (p.β k)
  sep : ∀ k k' b, k ≠ k' → Live M k → Live M k' → root (p.β k) = some b → root (p.β k') ≠ some b
  own : ∀ k b, Live M k → root (p.β k) = some b → b < w.heap.size ∧ (gid ≤ k ∧ F.R b ∨ F.w0.heap.size ≤ b)
  priv : ∀ k b, Live M k → p.ρ k b → Imm F p M w b ∧ F.w0.heap.size ≤ b
  apart : ∀ k k' b, k ≠ k' → Live M k → Live M k' → p.ρ k b → ¬ p.ρ k' b
  os : w.os = F.w0.os
  tape : w.tape = F.w0.tape
  output : w.output = F.w0.output
  size : F.w0.heap.size ≤ w.heap.size
  old : ∀ b, b < F.w0.heap.size → ¬ F.R b → w.heap[b]? = F.w0.heap[b]?

structure St (F : Fr) (p : Pl) (env : List (Nat × AV)) (M : List (Nat × AObj)) (a : Act) (w : World) : Prop where
  defers : a.defers = []
  nt : a.tmps.size = F.nt ∧ ∀ t, t < F.np → a.tmps.getD t undef = F.T t
  slots : ∀ t, RelV p.β (Imm F p M w) w (gt env t) (a.tmps.getD t undef)
  hp : Hp F p M w

end Go.Am

/- The abstract machine: how the state is kept. -/
namespace Go.Am
open Go.RowKit

theorem Hp.keep_put {F : Fr} {p p' : Pl} {M M' : List (Nat × AObj)} {w w' : World} {k : Nat} (_h : Hp F p M w) {row : Option Nat} (hg : w.grownBy w' row)
    (hrow : ∀ b, row = some b → Live M k ∧ root (p.β k) = some b)
    (hM : ∀ j, j ≠ k → go M' j = go M j) (hβ : ∀ j, j ≠ k → p'.β j = p.β j)
    (hroot : ∀ b, root (p'.β k) = some b → w.heap.size ≤ b ∨ (Live M k ∧ root (p.β k) = some b)) :
    Keep (Imm F p M w) (Imm F p' M' w') w w' := by
  intro b hb
  obtain ⟨h1, h2, h3⟩ := hb
  have hne : some b ≠ row := fun e => h3 k (hrow b e.symm).1 (hrow b e.symm).2
  refine ⟨⟨by have := hg.size; omega, h2, fun j hj => ?_⟩, hg.block b h1 hne⟩
  by_cases hjk : j = k
  · subst hjk
    intro e
    rcases hroot b e with h4 | ⟨h4, h5⟩
    · omega
    · exact h3 j h4 h5
  · rw [hβ j hjk]
    exact h3 j (by unfold Live at *; rw [← hM j hjk]; exact hj)

/-- One object is made, or written: the others are as they were. -/
theorem Hp.put {F : Fr} {p p' : Pl} {M M' : List (Nat × AObj)} {w w' : World} {k : Nat} (h : Hp F p M w) {row : Option Nat} (hg : w.grownBy w' row)
    (hrow : ∀ b, row = some b → Live M k ∧ root (p.β k) = some b)
    (hM : ∀ j, j ≠ k → go M' j = go M j) (hβ : ∀ j, j ≠ k → p'.β j = p.β j) (hρ : ∀ j, j ≠ k → p'.ρ j = p.ρ j)
    (hno : (∀ j o, j ≠ k → go M j = some o → o.has k = false) ∨ p'.β k = p.β k)
    (hroot : ∀ b, root (p'.β k) = some b → w.heap.size ≤ b ∨ (Live M k ∧ root (p.β k) = some b))
    (hlt : ∀ b, root (p'.β k) = some b → b < w'.heap.size)
    (hpriv : ∀ b, p'.ρ k b → Imm F p M w b ∧ F.w0.heap.size ≤ b ∧ ∀ j, j ≠ k → Live M j → ¬ p.ρ j b)
    (ho : ∀ o, go M' k = some o → RelO p'.β (p'.ρ k) (Imm F p' M' w') w' o (p'.β k)) : Hp F p' M' w' := by
  have hk := h.keep_put (p' := p') (M' := M') (k := k) hg hrow hM hβ hroot
  have hlive : ∀ j, j ≠ k → Live M' j → Live M j := fun j hj hl => by unfold Live at *; rw [← hM j hj]; exact hl
  have hfresh : ∀ b, root (p'.β k) = some b → gid ≤ k ∧ F.R b ∨ F.w0.heap.size ≤ b := fun b hb => by
    rcases hroot b hb with h1 | ⟨h1, h2⟩
    · exact .inr (Nat.le_trans h.size h1)
    · exact (h.own k b h1 h2).2
  constructor
  · intro j o hj
    by_cases hjk : j = k
    · subst hjk; exact ho o hj
    · rw [hM j hjk] at hj
      have hr := h.objs j o hj
      have hl : Live M j := by unfold Live; rw [hj]; rfl
      rw [hρ j hjk, hβ j hjk]
      refine RelO.keep hk (fun b hb => (h.priv j b hl hb).1) o (fun i hi => ?_) _ (fun b hb => ?_) hr
      · by_cases e : i = k
        · subst e
          rcases hno with hno | hno
          · rw [hno j o hjk hj] at hi; cases hi
          · exact hno
        · exact hβ i e
      · have hb' := h.own j b hl hb
        refine hg.block b hb'.1 (fun e => ?_)
        obtain ⟨e1, e2⟩ := hrow b e.symm
        exact h.sep k j b (Ne.symm hjk) e1 hl e2 hb
  · intro j j' b hne hj hj' hb hb'
    by_cases e : j = k
    · subst e
      have hj2 := hlive j' (Ne.symm hne) hj'
      rw [hβ j' (Ne.symm hne)] at hb'
      rcases hroot b hb with h1 | ⟨h1, h2⟩
      · have := (h.own j' b hj2 hb').1; omega
      · exact h.sep j j' b hne h1 hj2 h2 hb'
    · have hj1 := hlive j e hj
      rw [hβ j e] at hb
      by_cases e' : j' = k
      · subst e'
        rcases hroot b hb' with h1 | ⟨h1, h2⟩
        · have := (h.own j b hj1 hb).1; omega
        · exact h.sep j j' b hne hj1 h1 hb h2
      · rw [hβ j' e'] at hb'
        exact h.sep j j' b hne hj1 (hlive j' e' hj') hb hb'
  · intro j b hj hb
    by_cases e : j = k
    · subst e; exact ⟨hlt b hb, hfresh b hb⟩
    · rw [hβ j e] at hb
      have := h.own j b (hlive j e hj) hb
      exact ⟨by have := hg.size; omega, this.2⟩
  · intro j b hj hb
    by_cases e : j = k
    · subst e
      have := hpriv b hb
      exact ⟨(hk b this.1).1, this.2.1⟩
    · rw [hρ j e] at hb
      have := h.priv j b (hlive j e hj) hb
      exact ⟨(hk b this.1).1, this.2⟩
  · intro j j' b hne hj hj' hb hb'
    by_cases e : j = k
    · subst e
      rw [hρ j' (Ne.symm hne)] at hb'
      exact (hpriv b hb).2.2 j' (Ne.symm hne) (hlive j' (Ne.symm hne) hj') hb'
    · rw [hρ j e] at hb
      by_cases e' : j' = k
      · subst e'
        exact (hpriv b hb').2.2 j e (hlive j e hj) hb
      · rw [hρ j' e'] at hb'
        exact h.apart j j' b hne (hlive j e hj) (hlive j' e' hj') hb hb'
  · exact hg.os.trans h.os
  · exact hg.tape.trans h.tape
  · exact hg.output.trans h.output
  · exact Nat.le_trans h.size hg.size
  · intro b hb hR
    rw [hg.block b (by have := h.size; omega) (fun e => ?_)]
    · exact h.old b hb hR
    · obtain ⟨e1, e2⟩ := hrow b e.symm
      rcases (h.own k b e1 e2).2 with h1 | h1
      · exact hR h1.2
      · omega

/-- A draw: the heap is as it was. -/
theorem Hp.same {F : Fr} {p : Pl} {M : List (Nat × AObj)} {w w' : World} (h : Hp F p M w) (hh : w'.heap = w.heap) (ho : w'.os = w.os) (ht : w'.tape = w.tape) (hu : w'.output = w.output) :
    Hp F p M w' ∧ Keep (Imm F p M w) (Imm F p M w') w w' := by
  have hk : Keep (Imm F p M w) (Imm F p M w') w w' := fun b hb => ⟨⟨by rw [hh]; exact hb.1, hb.2⟩, by rw [hh]⟩
  refine ⟨⟨fun j o hj => ?_, h.sep, fun j b hj hb => ?_, fun j b hj hb => ⟨(hk b (h.priv j b hj hb).1).1, (h.priv j b hj hb).2⟩, h.apart, ho.trans h.os, ht.trans h.tape, hu.trans h.output, by rw [hh]; exact h.size, by rw [hh]; exact h.old⟩, hk⟩
  · have hl : Live M j := by unfold Live; rw [hj]; rfl
    exact RelO.keep hk (fun b hb => (h.priv j b hl hb).1) o (fun _ _ => rfl) _ (fun b _ => by rw [hh]) (h.objs j o hj)
  · rw [hh]; exact h.own j b hj hb

/-! ### objects forgotten -/

mutual
def AV.kill (k : Nat) : AV → AV
  | .any => .any
  | .d x => .d x
  | .own j => if j = k then .any else .own j
  | .box j o => if j = k then .any else .box j o
  | .elt j s i c => if j = k then .any else .elt j s i c
  | .agg l => .agg (AV.killL k l)
  | .tup l => .tup (AV.killL k l)
  | .gd p v => .gd p (v.kill k)
  | .fn f l => .fn f (AV.killL k l)
def AV.killL (k : Nat) : List AV → List AV
  | [] => []
  | x :: r => x.kill k :: AV.killL k r
end

mutual
theorem AV.has_kill (k : Nat) : (x : AV) → (x.kill k).has k = false
  | .any => by simp [AV.kill, AV.has]
  | .d x => by simp [AV.kill, AV.has]
  | .own j => by by_cases h : j = k <;> simp [AV.kill, AV.has, h]
  | .box j o => by by_cases h : j = k <;> simp [AV.kill, AV.has, h]
  | .elt j s i c => by by_cases h : j = k <;> simp [AV.kill, AV.has, h]
  | .agg l => by simp [AV.kill, AV.has, AV.has_killL k l]
  | .tup l => by simp [AV.kill, AV.has, AV.has_killL k l]
  | .gd p v => by simp [AV.kill, AV.has, AV.has_kill k v]
  | .fn f l => by simp [AV.kill, AV.has, AV.has_killL k l]
theorem AV.has_killL (k : Nat) : (l : List AV) → AV.hasL k (AV.killL k l) = false
  | [] => by simp [AV.killL, AV.hasL]
  | x :: r => by simp [AV.killL, AV.hasL, AV.has_kill k x, AV.has_killL k r]
end

mutual
theorem RelV.kill {β : Nat → Value} {Im : Nat → Prop} {w : World} (k : Nat) : (x : AV) → (v : Value) → RelV β Im w x v → RelV β Im w (x.kill k) v
  | .any, v, r => by simp only [AV.kill, RelV]
  | .d x, v, r => by simpa only [AV.kill] using r
  | .own j, v, r => by by_cases h : j = k <;> simp [AV.kill, h] <;> first | (simp only [RelV]; done) | (simpa [RelV, h] using r)
  | .box j o, v, r => by
    by_cases h : j = k
    · simp [AV.kill, h, RelV]
    · simpa [AV.kill, h] using r
  | .elt j s i c, v, r => by
    by_cases h : j = k
    · simp [AV.kill, h, RelV]
    · simpa [AV.kill, h] using r
  | .agg l, v, r => by
    simp only [AV.kill, RelV] at r ⊢
    obtain ⟨vs, hv, hl⟩ := r
    exact ⟨vs, hv, RelL.kill k l vs hl⟩
  | .tup l, v, r => by
    simp only [AV.kill, RelV] at r ⊢
    obtain ⟨vs, hv, hl⟩ := r
    exact ⟨vs, hv, RelL.kill k l vs hl⟩
  | .gd p x, v, r => by
    simp only [AV.kill, RelV] at r ⊢
    exact ⟨fun hp => RelV.kill k x v (r.1 hp), r.2⟩
  | .fn f l, v, r => by
    simp only [AV.kill, RelV] at r ⊢
    obtain ⟨vs, hv, hl⟩ := r
    exact ⟨vs, hv, RelL.kill k l vs hl⟩
theorem RelL.kill {β : Nat → Value} {Im : Nat → Prop} {w : World} (k : Nat) : (l : List AV) → (vs : List Value) → RelL β Im w l vs → RelL β Im w (AV.killL k l) vs
  | [], vs, r => by simpa only [AV.killL] using r
  | x :: l, vs, r => by
    simp only [AV.killL, RelL] at r ⊢
    obtain ⟨u, us, hv, hx, hr⟩ := r
    exact ⟨u, us, hv, RelV.kill k x u hx, RelL.kill k l us hr⟩
end

def AObj.kill (k : Nat) : AObj → AObj
  | .arr fr e sz n f => .arr fr e sz n f
  | .cells ty l => .cells ty (AV.killL k l)

theorem AObj.has_kill (k : Nat) (o : AObj) : (o.kill k).has k = false := by
  cases o with
  | arr => rfl
  | cells ty l => simp [AObj.kill, AObj.has, AV.has_killL]

theorem RelO.kill {β : Nat → Value} {ρ Im : Nat → Prop} {w : World} (k : Nat) (o : AObj) (v : Value) (r : RelO β ρ Im w o v) : RelO β ρ Im w (o.kill k) v := by
  cases o with
  | arr => simpa only [AObj.kill] using r
  | cells ty l =>
    simp only [AObj.kill, RelO] at r ⊢
    obtain ⟨b, vs, hv, hb, hl⟩ := r
    exact ⟨b, vs, hv, hb, RelL.kill k l _ hl⟩

/-- Slots without what speaks of k. -/
def killE (k : Nat) : List (Nat × AV) → List (Nat × AV)
  | [] => []
  | (t, v) :: r => (t, v.kill k) :: killE k r

/-- Objects without k. -/
def delM (k : Nat) : List (Nat × AObj) → List (Nat × AObj)
  | [] => []
  | (j, o) :: r => if j = k then delM k r else (j, o.kill k) :: delM k r

theorem gt_killE (k t : Nat) : ∀ env : List (Nat × AV), gt (killE k env) t = (gt env t).kill k
  | [] => by simp [killE, gt, AV.kill]
  | (j, v) :: r => by
    simp only [killE, gt]
    split
    · rfl
    · exact gt_killE k t r

theorem go_delM_self (k : Nat) : ∀ M : List (Nat × AObj), go (delM k M) k = none
  | [] => rfl
  | (j, o) :: r => by
    simp only [delM]
    split
    · exact go_delM_self k r
    · rename_i h; simp only [go, h, if_false]; exact go_delM_self k r

theorem go_delM_ne {k j : Nat} (h : j ≠ k) : ∀ M : List (Nat × AObj), go (delM k M) j = (go M j).map (AObj.kill k)
  | [] => rfl
  | (i, o) :: r => by
    simp only [delM]
    by_cases e : i = k
    · subst e
      rw [if_pos rfl]
      simp only [go, if_neg (Ne.symm h)]
      exact go_delM_ne h r
    · rw [if_neg e]
      simp only [go]
      by_cases e' : i = j
      · subst e'; simp
      · simp only [if_neg e']; exact go_delM_ne h r

theorem live_delM {k j : Nat} {M : List (Nat × AObj)} : Live (delM k M) j ↔ j ≠ k ∧ Live M j := by
  unfold Live
  by_cases h : j = k
  · subst h; simp [go_delM_self]
  · simp [go_delM_ne h, h]

/-- An object is forgotten: its block may be read from now on, and is not written again. -/
theorem Hp.del {F : Fr} {p : Pl} {M : List (Nat × AObj)} {w : World} (h : Hp F p M w) (k : Nat) :
    Hp F p (delM k M) w ∧ Keep (Imm F p M w) (Imm F p (delM k M) w) w w := by
  have hk : Keep (Imm F p M w) (Imm F p (delM k M) w) w w := fun b hb => ⟨⟨hb.1, hb.2.1, fun j hj => hb.2.2 j (live_delM.1 hj).2⟩, rfl⟩
  refine ⟨⟨fun j o hj => ?_, fun j j' b hne hj hj' => h.sep j j' b hne (live_delM.1 hj).2 (live_delM.1 hj').2, fun j b hj => h.own j b (live_delM.1 hj).2,
    fun j b hj hb => ⟨(hk b (h.priv j b (live_delM.1 hj).2 hb).1).1, (h.priv j b (live_delM.1 hj).2 hb).2⟩, fun j j' b hne hj hj' => h.apart j j' b hne (live_delM.1 hj).2 (live_delM.1 hj').2,
    h.os, h.tape, h.output, h.size, h.old⟩, hk⟩
  have hjk : j ≠ k := by rintro rfl; rw [go_delM_self] at hj; cases hj
  rw [go_delM_ne hjk] at hj
  cases hg : go M j with
  | none => rw [hg] at hj; cases hj
  | some o' =>
    rw [hg] at hj
    simp only [Option.map_some, Option.some.injEq] at hj
    subst hj
    have hl : Live M j := by unfold Live; rw [hg]; rfl
    refine RelO.kill k o' _ (RelO.keep hk (fun b hb => (h.priv j b hl hb).1) o' (fun _ _ => rfl) _ (fun b _ => rfl) (h.objs j o' hg))

theorem St.del {F : Fr} {p : Pl} {env : List (Nat × AV)} {M : List (Nat × AObj)} {a : Act} {w : World} (h : St F p env M a w) (k : Nat) : St F p (killE k env) (delM k M) a w := by
  obtain ⟨h1, h2⟩ := h.hp.del k
  refine ⟨h.defers, h.nt, fun t => ?_, h1⟩
  rw [gt_killE]
  exact RelV.kill k _ _ (RelV.keep h2 _ (fun _ _ => rfl) _ (h.slots t))

/-- A slot is written. -/
theorem St.write {F : Fr} {p : Pl} {env : List (Nat × AV)} {M : List (Nat × AObj)} {a : Act} {w : World} (h : St F p env M a w) (d : Nat) (x : AV) (v : Value)
    (hx : RelV p.β (Imm F p M w) w x v) (hd : F.ok d) : St F p ((d, x) :: env) M (a.put (some d) v) w := by
  refine ⟨by simpa [Act.put] using h.defers, ⟨by simpa [Act.put] using h.nt.1, fun t ht => ?_⟩, fun t => ?_, h.hp⟩
  · have hne : d ≠ t := fun e => by have := hd.1; omega
    have := h.nt.2 t ht
    simpa [Act.put, hne] using this
  simp only [gt, Act.put]
  by_cases e : d = t
  · subst e
    rw [if_pos rfl]
    simpa [h.nt.1, hd.2] using hx
  · rw [if_neg e]
    have := h.slots t
    simpa [e] using this

theorem St.weak {F : Fr} {p : Pl} {env env' : List (Nat × AV)} {M : List (Nat × AObj)} {a : Act} {w : World} (h : St F p env M a w) (he : ∀ t, gt env' t = .any ∨ gt env' t = gt env t) : St F p env' M a w := by
  refine ⟨h.defers, h.nt, fun t => ?_, h.hp⟩
  rcases he t with e | e
  · rw [e]; simp only [RelV]
  · rw [e]; exact h.slots t

def Pl.upd (p : Pl) (k : Nat) (v : Value) (r : Nat → Prop) : Pl := ⟨fun j => if j = k then v else p.β j, fun j => if j = k then r else p.ρ j⟩

/-- An object is made or written, in a state. -/
theorem St.put {F : Fr} {p : Pl} {env : List (Nat × AV)} {M : List (Nat × AObj)} {a : Act} {w w' : World} (h : St F p env M a w) (k : Nat) (v : Value) (r : Nat → Prop) (M' : List (Nat × AObj)) {row : Option Nat}
    (hg : w.grownBy w' row) (hrow : ∀ b, row = some b → Live M k ∧ root (p.β k) = some b)
    (hM : ∀ j, j ≠ k → go M' j = go M j)
    (hno : ((∀ t, (gt env t).has k = false) ∧ ∀ j o, j ≠ k → go M j = some o → o.has k = false) ∨ v = p.β k)
    (hroot : ∀ b, root v = some b → w.heap.size ≤ b ∨ (Live M k ∧ root (p.β k) = some b))
    (hlt : ∀ b, root v = some b → b < w'.heap.size)
    (hpriv : ∀ b, r b → Imm F p M w b ∧ F.w0.heap.size ≤ b ∧ ∀ j, j ≠ k → Live M j → ¬ p.ρ j b)
    (ho : Keep (Imm F p M w) (Imm F (p.upd k v r) M' w') w w' → ∀ o, go M' k = some o → RelO (p.upd k v r).β r (Imm F (p.upd k v r) M' w') w' o v) :
    St F (p.upd k v r) env M' a w' := by
  have hβ : ∀ j, j ≠ k → (p.upd k v r).β j = p.β j := fun j hj => by simp [Pl.upd, hj]
  have hρ : ∀ j, j ≠ k → (p.upd k v r).ρ j = p.ρ j := fun j hj => by simp [Pl.upd, hj]
  have hβk : (p.upd k v r).β k = v := by simp [Pl.upd]
  have hρk : (p.upd k v r).ρ k = r := by simp [Pl.upd]
  have hk := h.hp.keep_put (p' := p.upd k v r) (M' := M') (k := k) hg hrow hM hβ (by rw [hβk]; exact hroot)
  refine ⟨h.defers, h.nt, fun t => RelV.keep hk _ (fun j hj => ?_) _ (h.slots t), ?_⟩
  · by_cases e : j = k
    · subst e
      rcases hno with hno | hno
      · rw [hno.1 t] at hj; cases hj
      · rw [hβk]; exact hno
    · exact hβ j e
  · refine h.hp.put (p' := p.upd k v r) (M' := M') (k := k) hg hrow hM hβ hρ (hno.imp (fun h => h.2) (fun h => by rw [hβk]; exact h)) (by rw [hβk]; exact hroot) (by rw [hβk]; exact hlt) (by rw [hρk]; exact hpriv) ?_
    rw [hβk, hρk]
    exact ho hk

/-- A new object. -/
theorem St.new {F : Fr} {p : Pl} {env : List (Nat × AV)} {M : List (Nat × AObj)} {a : Act} {w w' : World} (h : St F p env M a w) (k : Nat) (v : Value) (r : Nat → Prop) (o : AObj)
    (hg : w.grownBy w' none) (hroot : ∀ b, root v = some b → w.heap.size ≤ b ∧ b < w'.heap.size)
    (hpriv : ∀ b, r b → Imm F p (delM k M) w b ∧ F.w0.heap.size ≤ b ∧ ∀ j, j ≠ k → Live M j → ¬ p.ρ j b)
    (ho : Keep (Imm F p (delM k M) w) (Imm F (p.upd k v r) ((k, o) :: delM k M) w') w w' → RelO (p.upd k v r).β r (Imm F (p.upd k v r) ((k, o) :: delM k M) w') w' o v) :
    St F (p.upd k v r) (killE k env) ((k, o) :: delM k M) a w' := by
  have h' := h.del k
  refine h'.put k v r _ hg (fun b hb => by cases hb) (fun j hj => by simp only [go, if_neg (Ne.symm hj)]) (.inl ⟨fun t => by rw [gt_killE]; exact AV.has_kill _ _, fun j o hj hgo => ?_⟩) (fun b hb => .inl (hroot b hb).1) (fun b hb => (hroot b hb).2)
    (fun b hb => ⟨(hpriv b hb).1, (hpriv b hb).2.1, fun j hj hl => (hpriv b hb).2.2 j hj (live_delM.1 hl).2⟩) (fun hk o' ho' => ?_)
  · rw [go_delM_ne hj] at hgo
    cases hx : go M j with
    | none => rw [hx] at hgo; cases hgo
    | some o' => rw [hx] at hgo; simp only [Option.map_some, Option.some.injEq] at hgo; subst hgo; exact AObj.has_kill _ _
  · simp only [go, if_true, Option.some.injEq] at ho'
    subst ho'
    exact ho hk

end Go.Am

/- The abstract machine: what single operations give. -/
namespace Go.Am
open Go.RowKit

def inK (k : IntKind) (n : Int) : Prop := k.min ≤ n ∧ n ≤ k.max
instance (k : IntKind) (n : Int) : Decidable (inK k n) := inferInstanceAs (Decidable (_ ∧ _))

theorem inK_i64 (n : Int) : inK .i64 n ↔ -9223372036854775808 ≤ n ∧ n ≤ 9223372036854775807 := by simp [inK, IntKind.min, IntKind.max, IntKind.signed, IntKind.bits]
theorem inK_u8 (n : Int) : inK .u8 n ↔ 0 ≤ n ∧ n ≤ 255 := by simp [inK, IntKind.min, IntKind.max, IntKind.signed, IntKind.bits]
theorem inK_u64 (n : Int) : inK .u64 n ↔ 0 ≤ n ∧ n ≤ 18446744073709551615 := by simp [inK, IntKind.min, IntKind.max, IntKind.signed, IntKind.bits]
theorem inK_i32 (n : Int) : inK .i32 n ↔ -2147483648 ≤ n ∧ n ≤ 2147483647 := by simp [inK, IntKind.min, IntKind.max, IntKind.signed, IntKind.bits]
theorem inK_u32 (n : Int) : inK .u32 n ↔ 0 ≤ n ∧ n ≤ 4294967295 := by simp [inK, IntKind.min, IntKind.max, IntKind.signed, IntKind.bits]
theorem inK_u16 (n : Int) : inK .u16 n ↔ 0 ≤ n ∧ n ≤ 65535 := by simp [inK, IntKind.min, IntKind.max, IntKind.signed, IntKind.bits]
theorem inK_i16 (n : Int) : inK .i16 n ↔ -32768 ≤ n ∧ n ≤ 32767 := by simp [inK, IntKind.min, IntKind.max, IntKind.signed, IntKind.bits]
theorem inK_i8 (n : Int) : inK .i8 n ↔ -128 ≤ n ∧ n ≤ 127 := by simp [inK, IntKind.min, IntKind.max, IntKind.signed, IntKind.bits]

theorem wrap_in {k : IntKind} {n : Int} (h : inK k n) : k.wrap n = n := by
  cases k
  all_goals first | rw [inK_i64] at h | rw [inK_u8] at h | rw [inK_u64] at h | rw [inK_i32] at h | rw [inK_u32] at h | rw [inK_u16] at h | rw [inK_i16] at h | rw [inK_i8] at h
  all_goals (simp [IntKind.wrap, IntKind.signed, IntKind.bits]; omega)

theorem wrap_inK (k : IntKind) (n : Int) : inK k (k.wrap n) := by
  cases k
  all_goals first | rw [inK_i64] | rw [inK_u8] | rw [inK_u64] | rw [inK_i32] | rw [inK_u32] | rw [inK_u16] | rw [inK_i16] | rw [inK_i8]
  all_goals (simp [IntKind.wrap, IntKind.signed, IntKind.bits]; omega)

/-- A value as data. -/
def valD : Value → D
  | .int k n => if inK k n then .int k n else .raw (.int k n)
  | .bool b => .bool b
  | .string s => if s.size ≤ nb then .str s else .raw (.string s)
  | v => .raw v

theorem valD_ok (Im : Nat → Prop) (w : World) (v : Value) : RelD Im w (valD v) v := by
  cases v
  case int k n =>
    simp only [valD]
    split
    · rename_i h; simp only [RelD]; exact ⟨trivial, h.1, h.2⟩
    · simp only [RelD]
  case string s =>
    simp only [valD]
    split
    · rename_i h; simp only [RelD]; exact ⟨trivial, h⟩
    · simp only [RelD]
  all_goals simp only [valD, RelD]

theorem valD_own (w : World) (S : Nat → Prop) (v : Value) : OwnD w (valD v) S v := by
  cases v
  case int k n =>
    simp only [valD]
    split
    · rename_i h; simp only [OwnD]; exact ⟨trivial, h.1, h.2⟩
    · simp only [OwnD]
  case string s =>
    simp only [valD]
    split
    · rename_i h; simp only [OwnD]; exact ⟨trivial, h⟩
    · simp only [OwnD]
  all_goals simp only [valD, OwnD]

/-- What is asked of a type. -/
structure Ty where
  ok : Bool
  agg : Bool
  bl : Bool
  st : Bool
  sz : Bool
  size : Nat
  bytes : Nat
  zero : Option (List D)
  el : Option TypeId
  int : Option IntKind
  fld : List (Nat × TypeId × Nat)

def tyOf (P : Program) (i : TypeInfo) (u : TypeDesc) : Ty := {
  ok := true
  agg := (match u with | .struct _ => true | .array _ _ => true | _ => false)
  bl := (match u with | .bool => true | _ => false)
  st := (match u with | .string => true | _ => false)
  sz := (match u with | .struct fs => fs.toList.all fun f => (P.info? f.type).isSome | _ => false)
  size := i.size
  bytes := i.bytes
  zero := i.zero.map fun z => z.cells.toList.map valD
  el := (match u with | .slice e => some e | _ => none)
  int := (match u with | .int k => some k | _ => none)
  fld := (match u with | .struct fs => fs.toList.map fun f => (f.offset, f.type, P.cellsOf f.type) | _ => []) }

def ty (P : Program) (t : TypeId) : Ty :=
  match P.info? t, P.underlying t with
  | some i, some u => tyOf P i u
  | _, _ => ⟨false, false, false, false, false, 0, 0, none, none, none, []⟩

theorem ty_some {P : Program} {t : TypeId} (h : (ty P t).ok = true) : ∃ i u, P.info? t = some i ∧ P.underlying t = some u := by
  unfold ty at h
  split at h
  · rename_i i u hi hu; exact ⟨i, u, hi, hu⟩
  · simp at h

theorem ty_of {P : Program} {t : TypeId} {i : TypeInfo} {u : TypeDesc} (hi : P.info? t = some i) (hu : P.underlying t = some u) : ty P t = tyOf P i u := by
  simp only [ty, hi, hu]

/-! ### views -/

def sq : D → Option (Nat × Nat × (Nat → List D))
  | .seq sz n f => some (sz, n, f)
  | _ => none
def pt : D → Option (List D)
  | .ptr cs => some cs
  | _ => none

theorem sq_some {x : D} {sz n : Nat} {f : Nat → List D} (h : sq x = some (sz, n, f)) : x = .seq sz n f := by
  cases x <;> simp [sq] at h
  obtain ⟨rfl, rfl, rfl⟩ := h; rfl
theorem pt_some {x : D} {cs : List D} (h : pt x = some cs) : x = .ptr cs := by
  cases x <;> simp [pt] at h
  subst h; rfl

/-- Not more than one cell. -/
def D.one : D → Bool
  | .any => false
  | .raw v => v.oneCell'
  | _ => true
def AV.one : AV → Bool
  | .d x => x.one
  | .own _ => true
  | .box _ _ => true
  | .elt _ _ _ _ => true
  | .fn _ _ => true
  | _ => false

theorem RelD.one {Im : Nat → Prop} {w : World} {x : D} {v : Value} (h : x.one = true) (r : RelD Im w x v) : v.oneCell' = true := by
  cases x <;> simp only [RelD] at r <;> simp only [D.one] at h
  case any => cases h
  case int => rw [r.1]; rfl
  case bool => rw [r]; rfl
  case str => rw [r.1]; rfl
  case raw => rw [r]; exact h
  case seq => obtain ⟨_, _, hv, _⟩ := r; rw [hv]; rfl
  case ptr => obtain ⟨_, _, hv, _⟩ := r; rw [hv]; rfl

theorem RelO.one {β : Nat → Value} {ρ Im : Nat → Prop} {w : World} {o : AObj} {v : Value} (r : RelO β ρ Im w o v) : v.oneCell' = true := by
  match o, r with
  | .arr true e sz n f, r =>
    simp only [RelO] at r
    obtain ⟨xs, T, ⟨_, h⟩, _⟩ := r
    rcases h with ⟨h, _⟩ | ⟨g, cap, cur, h, _⟩ <;> rw [h] <;> rfl
  | .arr false e sz n f, r =>
    simp only [RelO] at r
    obtain ⟨xs, ⟨_, h⟩, _⟩ := r
    rcases h with ⟨h, _⟩ | ⟨g, cap, cur, h, _⟩ <;> rw [h] <;> rfl
  | .cells ty l, r =>
    simp only [RelO] at r
    obtain ⟨b, vs, h, _⟩ := r
    rw [h]; rfl

/-- Without its guard. -/
def AV.strip : AV → AV
  | .gd _ v => v.strip
  | v => v
def AV.sc : AV → Prop
  | .gd p v => p ∧ v.sc
  | _ => True

theorem RelV.strip {β : Nat → Value} {Im : Nat → Prop} {w : World} : (x : AV) → (v : Value) → x.sc → RelV β Im w x v → RelV β Im w x.strip v
  | .gd p x, v, h, r => by
    simp only [AV.sc] at h
    simp only [RelV] at r
    simp only [AV.strip]
    exact RelV.strip x v h.2 (r.1 h.1)
  | .any, v, _, r => by simpa only [AV.strip] using r
  | .d _, v, _, r => by simpa only [AV.strip] using r
  | .own _, v, _, r => by simpa only [AV.strip] using r
  | .box _ _, v, _, r => by simpa only [AV.strip] using r
  | .elt _ _ _ _, v, _, r => by simpa only [AV.strip] using r
  | .agg _, v, _, r => by simpa only [AV.strip] using r
  | .tup _, v, _, r => by simpa only [AV.strip] using r
  | .fn _ _, v, _, r => by simpa only [AV.strip] using r

/-- An operand. -/
def rd (env : List (Nat × AV)) : Operand → AV
  | .tmp t => gt env t
  | .const v => .d (valD v)
  | .func f => .fn f []
  | .global _ => .any

theorem rd_ok {F : Fr} {p : Pl} {env : List (Nat × AV)} {M : List (Nat × AObj)} {a : Act} {w : World} (h : St F p env M a w) (x : Operand) : RelV p.β (Imm F p M w) w (rd env x) (a.eval x) := by
  cases x with
  | tmp t => exact h.slots t
  | const v => simp only [rd, RelV, Act.eval]; exact valD_ok _ _ _
  | func f => simp only [rd, RelV, Act.eval, RelL]; exact ⟨[], rfl, rfl⟩
  | global g => simp only [rd, RelV]

/-! ### lists -/

theorem RelL.len {β : Nat → Value} {Im : Nat → Prop} {w : World} : (l : List AV) → (vs : List Value) → RelL β Im w l vs → vs.length = l.length
  | [], vs, r => by simp only [RelL] at r; rw [r]; rfl
  | x :: l, vs, r => by
    simp only [RelL] at r
    obtain ⟨u, us, rfl, _, hr⟩ := r
    simp [RelL.len l us hr]

theorem RelL.get {β : Nat → Value} {Im : Nat → Prop} {w : World} : (l : List AV) → (vs : List Value) → RelL β Im w l vs → ∀ (i : Nat) (x : AV), l[i]? = some x → ∃ u, vs[i]? = some u ∧ RelV β Im w x u
  | [], vs, r, i, x, h => by simp at h
  | y :: l, vs, r, i, x, h => by
    simp only [RelL] at r
    obtain ⟨u, us, rfl, hu, hr⟩ := r
    cases i with
    | zero => simp at h; subst h; exact ⟨u, by simp, hu⟩
    | succ i => simp at h; obtain ⟨u', h1, h2⟩ := RelL.get l us hr i x h; exact ⟨u', by simpa using h1, h2⟩

theorem RelL.drop {β : Nat → Value} {Im : Nat → Prop} {w : World} : (o : Nat) → (l : List AV) → (vs : List Value) → RelL β Im w l vs → RelL β Im w (l.drop o) (vs.drop o)
  | 0, l, vs, r => by simpa using r
  | o + 1, [], vs, r => by simp only [RelL] at r; subst r; simp [RelL]
  | o + 1, x :: l, vs, r => by
    simp only [RelL] at r
    obtain ⟨u, us, rfl, hu, hr⟩ := r
    simpa using RelL.drop o l us hr

theorem RelL.take {β : Nat → Value} {Im : Nat → Prop} {w : World} : (o : Nat) → (l : List AV) → (vs : List Value) → RelL β Im w l vs → RelL β Im w (l.take o) (vs.take o)
  | 0, l, vs, r => by simp [RelL]
  | o + 1, [], vs, r => by simp only [RelL] at r; subst r; simp [RelL]
  | o + 1, x :: l, vs, r => by
    simp only [RelL] at r
    obtain ⟨u, us, rfl, hu, hr⟩ := r
    simp only [List.take_succ_cons, RelL]
    exact ⟨u, us.take o, rfl, hu, RelL.take o l us hr⟩

theorem RelL.append {β : Nat → Value} {Im : Nat → Prop} {w : World} : (l l' : List AV) → (vs vs' : List Value) → RelL β Im w l vs → RelL β Im w l' vs' → RelL β Im w (l ++ l') (vs ++ vs')
  | [], l', vs, vs', r, r' => by simp only [RelL] at r; subst r; simpa using r'
  | x :: l, l', vs, vs', r, r' => by
    simp only [RelL] at r
    obtain ⟨u, us, rfl, hu, hr⟩ := r
    simp only [List.cons_append, RelL]
    exact ⟨u, us ++ vs', rfl, hu, RelL.append l l' us vs' hr r'⟩

theorem RelC.get {Im : Nat → Prop} {w : World} : (l : List D) → (b o : Nat) → RelC Im w l b o → ∀ (i : Nat) (x : D), l[i]? = some x → ∃ u, w.cell? ⟨b, o + i, none⟩ = some u ∧ RelD Im w x u
  | [], _, _, _, i, x, h => by simp at h
  | y :: l, b, o, r, i, x, h => by
    simp only [RelC] at r
    obtain ⟨⟨u, hu, hx⟩, hr⟩ := r
    cases i with
    | zero => simp at h; subst h; exact ⟨u, by simpa using hu, hx⟩
    | succ i => simp at h; obtain ⟨u', h1, h2⟩ := RelC.get l b (o + 1) hr i x h; exact ⟨u', by rw [← h1]; congr 2; omega, h2⟩

theorem RelC.drop {Im : Nat → Prop} {w : World} : (i : Nat) → (l : List D) → (b o : Nat) → RelC Im w l b o → RelC Im w (l.drop i) b (o + i)
  | 0, l, b, o, r => by simpa using r
  | i + 1, [], b, o, r => by simp [RelC]
  | i + 1, x :: l, b, o, r => by
    simp only [RelC] at r
    have := RelC.drop i l b (o + 1) r.2
    simp only [List.drop_succ_cons]
    rw [show o + (i + 1) = o + 1 + i by omega]
    exact this

/-- Reading a row of cells. -/
theorem run_loadRow {P : Program} {w : World} {β : Nat → Value} {Im : Nat → Prop} (b o : Nat) (l : List D) (h : RelC Im w l b o) :
    ∃ vs : List Value, (loadCells ⟨b, o, none⟩ l.length).run P w = .ok vs.toArray w ∧ RelL β Im w (l.map AV.d) vs := by
  have h1 : ∀ (l : List D) (o : Nat), RelC Im w l b o → ∃ vs : List Value, vs.length = l.length ∧ (∀ j v, vs[j]? = some v → w.cell? ⟨b, o + j, none⟩ = some v) ∧ RelL β Im w (l.map AV.d) vs := by
    intro l
    induction l with
    | nil => intro o _; exact ⟨[], rfl, by simp, by simp [RelL]⟩
    | cons x l ih =>
      intro o r
      simp only [RelC] at r
      obtain ⟨⟨u, hu, hx⟩, hr⟩ := r
      obtain ⟨vs, h1, h2, h3⟩ := ih (o + 1) hr
      refine ⟨u :: vs, by simp [h1], fun j v hj => ?_, by simp only [List.map_cons, RelL]; exact ⟨u, vs, rfl, by simpa only [RelV] using hx, h3⟩⟩
      cases j with
      | zero => simp at hj; subst hj; simpa using hu
      | succ j => simp at hj; have := h2 j v hj; rwa [show o + 1 + j = o + (j + 1) by omega] at this
  obtain ⟨vs, h2, h3, h4⟩ := h1 l o h
  refine ⟨vs, ?_, h4⟩
  rw [← h2]
  exact run_loadCells_list w ⟨b, o, none⟩ vs (fun j v hj => by rw [Addr.add_lit]; exact h3 j v hj)

theorem loadVar_agg {P : Program} {t : TypeId} {w : World} {a : Addr} {vs : List Value} (hok : (ty P t).ok = true) (ha : (ty P t).agg = true) (hr : (loadCells a (ty P t).size).run P w = .ok vs.toArray w) :
    (loadVar t a).run P w = .ok (.agg vs.toArray) w := by
  obtain ⟨i, u, hi, hu⟩ := ty_some hok
  rw [ty_of hi hu] at ha hr
  simp only [tyOf] at ha hr
  cases u <;> simp at ha <;> simp [loadVar, isAgg, run_underlying hu, sizeOf, typeInfo, hi, hr]

theorem loadVar_one {P : Program} {t : TypeId} {w : World} {a : Addr} {v : Value} (hok : (ty P t).ok = true) (ha : (ty P t).agg = false) (hr : w.cell? a = some v) :
    (loadVar t a).run P w = .ok v w := by
  obtain ⟨i, u, hi, hu⟩ := ty_some hok
  rw [ty_of hi hu] at ha
  simp only [tyOf] at ha
  cases u <;> simp at ha <;> simp [loadVar, isAgg, run_underlying hu, hr]

end Go.Am

/- The abstract machine: operations that only look at values and memory. -/
namespace Go.Am
open Go.RowKit

def bad : Prop × AV := (False, .any)

section
variable {P : Program} {F : Fr} {p : Pl} {M : List (Nat × AObj)} {w : World}

/-- x is not nil -/
def evNil : AV → Prop × AV
  | .d y => (match pt y with | some _ => True | none => False, .d y)
  | .box k o => (True, .box k o)
  | .elt k s i j => (True, .elt k s i j)
  | _ => bad

theorem evNil_ok (x : AV) (u : Value) (h : RelV p.β (Imm F p M w) w x u) (hv : (evNil x).1) : (∃ a, u = .pointer (some a)) ∧ RelV p.β (Imm F p M w) w (evNil x).2 u := by
  cases x with
  | d y =>
    simp only [evNil] at hv ⊢
    refine ⟨?_, h⟩
    cases hy : pt y with
    | none => rw [hy] at hv; exact hv.elim
    | some cs =>
      obtain rfl := pt_some hy
      simp only [RelV, RelD] at h
      obtain ⟨b, o, hu, _⟩ := h
      exact ⟨_, hu⟩
  | box k o =>
    refine ⟨?_, h⟩
    simp only [RelV] at h
    obtain ⟨b, _, hu⟩ := h
    exact ⟨_, hu⟩
  | elt k s i j =>
    refine ⟨?_, h⟩
    simp only [RelV] at h
    obtain ⟨b, n, cap, _, hu⟩ := h
    exact ⟨_, hu⟩
  | any => exact hv.elim
  | own k => exact hv.elim
  | agg l => exact hv.elim
  | tup l => exact hv.elim
  | gd q v => exact hv.elim
  | fn f l => exact hv.elim

/-- the address of a field -/
def evFldA (T : Ty) (x : AV) (i : Nat) : Prop × AV :=
  match T.fld[i]? with
  | none => bad
  | some (off, _, fsz) =>
    match x with
    | .d y => (match pt y with | some cs => (fsz ≠ 0, .d (.ptr (cs.drop off))) | none => bad)
    | .box k o => (fsz ≠ 0, .box k (o + off))
    | .elt k s i' j => (fsz ≠ 0, .elt k s i' (j + off))
    | _ => bad

theorem run_fieldAt {t : TypeId} {i : Nat} {off : Nat} {ft : TypeId} {fsz : Nat} (b o : Nat) (hok : (ty P t).ok = true) (hf : (ty P t).fld[i]? = some (off, ft, fsz)) (hz : fsz ≠ 0) :
    (Instr.fieldAt t (.pointer (some ⟨b, o, none⟩)) i).run P w = .ok (.pointer (some ⟨b, o + off, none⟩)) w := by
  obtain ⟨inf, u, hi, hu⟩ := ty_some hok
  rw [ty_of hi hu] at hf
  simp only [tyOf] at hf
  cases u <;> simp at hf
  case struct fs =>
    obtain ⟨f, hf, rfl, rfl, rfl⟩ := hf
    have hc : ∃ inf', P.info? f.type = some inf' ∧ inf'.size ≠ 0 := by
      unfold Program.cellsOf at hz
      cases h : P.info? f.type with
      | none => simp [h] at hz
      | some inf' => exact ⟨inf', rfl, by simpa [h] using hz⟩
    obtain ⟨inf', h1, h2⟩ := hc
    have hadd : (⟨b, o, none⟩ : Addr).add f.offset = ⟨b, o + f.offset, none⟩ := by unfold Addr.add; split <;> simp_all
    simp [Instr.fieldAt, run_underlying hu, hf, Instr.sureAddr, fieldPlace, sizeOf, typeInfo, h1, h2, hadd]

theorem evFldA_ok {t : TypeId} {i : Nat} (x : AV) (u : Value) (hok : (ty P t).ok = true) (h : RelV p.β (Imm F p M w) w x u) (hv : (evFldA (ty P t) x i).1) :
    ∃ r, (Instr.fieldAt t u i).run P w = .ok r w ∧ RelV p.β (Imm F p M w) w (evFldA (ty P t) x i).2 r := by
  unfold evFldA at hv ⊢
  cases hf : (ty P t).fld[i]? with
  | none => rw [hf] at hv; exact hv.elim
  | some q =>
    obtain ⟨off, ft, fsz⟩ := q
    rw [hf] at hv
    cases x with
    | d y =>
      simp only at hv ⊢
      cases hy : pt y with
      | none => rw [hy] at hv; exact hv.elim
      | some cs =>
        rw [hy] at hv
        obtain rfl := pt_some hy
        simp only [RelV, RelD] at h
        obtain ⟨b, o, rfl, hb, hc⟩ := h
        refine ⟨_, run_fieldAt b o hok hf hv, ?_⟩
        simp only [RelV, RelD]
        exact ⟨b, o + off, rfl, hb, RelC.drop off cs b o hc⟩
    | box k o =>
      simp only [RelV] at h
      obtain ⟨b, hb, rfl⟩ := h
      refine ⟨_, run_fieldAt b o hok hf hv, ?_⟩
      simp only [RelV]
      exact ⟨b, hb, rfl⟩
    | elt k s i' j =>
      simp only [RelV] at h
      obtain ⟨b, n, cap, hb, rfl⟩ := h
      refine ⟨_, run_fieldAt b (i' * s + j) hok hf hv, ?_⟩
      simp only [RelV]
      exact ⟨b, n, cap, hb, by rw [Nat.add_assoc]⟩
    | any => exact hv.elim
    | own k => exact hv.elim
    | agg l => exact hv.elim
    | tup l => exact hv.elim
    | gd q v => exact hv.elim
    | fn f l => exact hv.elim

/-- a field of a struct that is a value -/
def evFld (P : Program) (T : Ty) (x : AV) (i : Nat) : Prop × AV :=
  match T.fld[i]?, x with
  | some (off, ft, _), .agg l =>
    if (ty P ft).agg then ((ty P ft).ok = true, .agg ((l.drop off).take (ty P ft).size)) else ((ty P ft).ok = true ∧ off < l.length, (l[off]?).getD .any)
  | _, _ => bad

theorem evFld_ok {t : TypeId} {i : Nat} (x : AV) (u : Value) (hok : (ty P t).ok = true) (h : RelV p.β (Imm F p M w) w x u) (hv : (evFld P (ty P t) x i).1) :
    ∃ r, (Instr.field t u i).run P w = .ok r w ∧ RelV p.β (Imm F p M w) w (evFld P (ty P t) x i).2 r := by
  unfold evFld at hv ⊢
  cases hf : (ty P t).fld[i]? with
  | none => rw [hf] at hv; exact hv.elim
  | some q =>
    obtain ⟨off, ft, fsz⟩ := q
    rw [hf] at hv
    cases x with
    | agg l =>
      simp only at hv ⊢
      simp only [RelV] at h
      obtain ⟨vs, rfl, hl⟩ := h
      obtain ⟨inf, d, hi, hu⟩ := ty_some hok
      rw [ty_of hi hu] at hf
      simp only [tyOf] at hf
      cases d <;> simp at hf
      case struct fs =>
        obtain ⟨f, hf, rfl, rfl, rfl⟩ := hf
        have hfok : (ty P f.type).ok = true := by
          split at hv
          · exact hv
          · exact hv.1
        obtain ⟨inf', d', hi', hu'⟩ := ty_some hfok
        by_cases ha : (ty P f.type).agg = true
        · rw [if_pos ha] at hv ⊢
          refine ⟨.agg ((vs.drop f.offset).take (ty P f.type).size).toArray, ?_, ?_⟩
          · rw [ty_of hi' hu'] at ha ⊢
            simp only [tyOf] at ha ⊢
            cases d' <;> simp at ha <;> simp [Instr.field, run_underlying hu, hf, asAgg, part, isAgg, run_underlying hu', sizeOf, typeInfo, hi', List.extract_eq_take_drop] <;> (congr 1; omega)
          · simp only [RelV]
            exact ⟨_, rfl, RelL.take _ _ _ (RelL.drop _ _ _ hl)⟩
        · rw [if_neg ha] at hv ⊢
          have hget := List.getElem?_eq_getElem hv.2
          obtain ⟨u, hu1, hu2⟩ := RelL.get l vs hl f.offset _ hget
          refine ⟨u, ?_, by rw [hget]; exact hu2⟩
          rw [ty_of hi' hu'] at ha
          simp only [tyOf] at ha
          cases d' <;> simp at ha <;> simp [Instr.field, run_underlying hu, hf, asAgg, part, isAgg, run_underlying hu', hu1]
    | d y => exact hv.elim
    | box k o => exact hv.elim
    | elt k s i' j => exact hv.elim
    | any => exact hv.elim
    | own k => exact hv.elim
    | tup l => exact hv.elim
    | gd q v => exact hv.elim
    | fn f l => exact hv.elim

/-- the address of an element -/
def evIxA (P : Program) (T : Ty) (M : List (Nat × AObj)) (x i : AV) : Prop × AV :=
  match T.el, i with
  | some e, .d (.int _ n) =>
    (match x with
    | .d y => (match sq y with
      | some (sz, len, f) => ((ty P e).ok = true ∧ sz = (ty P e).size ∧ 0 ≤ n ∧ n < len, .d (.ptr (f n.toNat)))
      | none => bad)
    | .own k => (match go M k with
      | some (.arr _ _ sz len _) => ((ty P e).ok = true ∧ sz = (ty P e).size ∧ 0 ≤ n ∧ n < len, .elt k sz n.toNat 0)
      | _ => bad)
    | _ => bad)
  | _, _ => bad

theorem run_indexAt {t e : TypeId} (k : IntKind) (n : Int) (a : Addr) (len cap : Nat) (hok : (ty P t).ok = true) (he : (ty P t).el = some e) (heok : (ty P e).ok = true) (ha : a.spot = none) (h0 : 0 ≤ n) (h1 : n < len) :
    (Instr.indexAt t (.slice (some a) len cap) (.int k n)).run P w = .ok (.pointer (some ⟨a.block, a.off + n.toNat * (ty P e).size, none⟩)) w := by
  obtain ⟨inf, u, hi, hu⟩ := ty_some hok
  obtain ⟨inf', u', hi', hu'⟩ := ty_some heok
  rw [ty_of hi hu] at he
  rw [ty_of hi' hu']
  simp only [tyOf] at he ⊢
  cases u <;> simp at he
  subst he
  have hadd : a.add (n.toNat * inf'.size) = ⟨a.block, a.off + n.toNat * inf'.size, none⟩ := by
    obtain ⟨b, o, s⟩ := a
    simp only at ha
    subst ha
    unfold Addr.add; split <;> simp_all
  simp [Instr.indexAt, asIntOf, run_underlying hu, h0, h1, sizeOf, typeInfo, hi', hadd]

theorem RelO.arr_own {fr : Bool} {e : TypeId} {sz n : Nat} {f : Nat → List D} {β : Nat → Value} {ρ Im : Nat → Prop} {v : Value} (r : RelO β ρ Im w (.arr fr e sz n f) v) : ∃ xs, w.ownsRow 0 e sz v n xs ∧ n ≤ nb := by
  cases fr with
  | true => simp only [RelO] at r; obtain ⟨xs, T, h, h2, _⟩ := r; exact ⟨xs, h, h2⟩
  | false => simp only [RelO] at r; obtain ⟨xs, h, h2, _⟩ := r; exact ⟨xs, h, h2⟩

theorem evIxA_ok {t : TypeId} (hp : Hp F p M w) (x i : AV) (u v : Value) (hok : (ty P t).ok = true) (h : RelV p.β (Imm F p M w) w x u) (h' : RelV p.β (Imm F p M w) w i v) (hv : (evIxA P (ty P t) M x i).1) :
    ∃ r, (Instr.indexAt t u v).run P w = .ok r w ∧ RelV p.β (Imm F p M w) w (evIxA P (ty P t) M x i).2 r := by
  unfold evIxA at hv ⊢
  cases he : (ty P t).el with
  | none => rw [he] at hv; exact hv.elim
  | some e =>
    rw [he] at hv
    cases i with
    | d j =>
      cases j with
      | int k n =>
        simp only [RelV, RelD] at h'
        obtain ⟨rfl, _⟩ := h'
        cases x with
        | d y =>
          simp only at hv ⊢
          cases hy : sq y with
          | none => rw [hy] at hv; exact hv.elim
          | some q =>
            obtain ⟨sz, len, f⟩ := q
            rw [hy] at hv
            obtain rfl := sq_some hy
            obtain ⟨v1, v2, v3, v4⟩ := hv
            simp only [RelV, RelD] at h
            obtain ⟨oa, cap, rfl, hn, hnone, hs⟩ := h
            cases oa with
            | none => have := (hnone rfl).1; omega
            | some a =>
              obtain ⟨s1, s2, s3⟩ := hs a rfl (by omega)
              refine ⟨_, run_indexAt k n a len cap hok he v1 s1 v3 v4, ?_⟩
              simp only [RelV, RelD]
              exact ⟨_, _, rfl, s2, by rw [← v2]; exact s3 n.toNat (by omega)⟩
        | own j =>
          simp only at hv ⊢
          cases hg : go M j with
          | none => rw [hg] at hv; exact hv.elim
          | some ob =>
            rw [hg] at hv
            cases ob with
            | cells ty l => exact hv.elim
            | arr fr e' sz len f =>
              obtain ⟨v1, v2, v3, v4⟩ := hv
              simp only [RelV] at h
              subst h
              obtain ⟨xs, hown, _⟩ := (hp.objs j _ hg).arr_own
              rcases own_cells hown with ⟨hn, _⟩ | ⟨g, cap, hβ, _⟩
              · omega
              · rw [hβ]
                refine ⟨_, run_indexAt k n _ len cap hok he v1 rfl v3 v4, ?_⟩
                simp only [RelV]
                exact ⟨g, len, cap, hβ, by rw [← v2]; simp⟩
        | box k o => exact hv.elim
        | elt k s i' j => exact hv.elim
        | any => exact hv.elim
        | agg l => exact hv.elim
        | tup l => exact hv.elim
        | gd q v => exact hv.elim
        | fn f l => exact hv.elim
      | any => exact hv.elim
      | bool b => exact hv.elim
      | str s => exact hv.elim
      | raw s => exact hv.elim
      | seq _ _ _ => exact hv.elim
      | ptr _ => exact hv.elim
    | own k => exact hv.elim
    | box k o => exact hv.elim
    | elt k s i' j => exact hv.elim
    | any => exact hv.elim
    | agg l => exact hv.elim
    | tup l => exact hv.elim
    | gd q v => exact hv.elim
    | fn f l => exact hv.elim

/-- what lies at an address -/
def evLoad (T : Ty) (M : List (Nat × AObj)) (x : AV) : Prop × AV :=
  match x with
  | .d y => (match pt y with
    | some cs => if T.agg then (T.size ≤ cs.length, .agg ((cs.take T.size).map .d)) else (0 < cs.length, .d (cs.headD .any))
    | none => bad)
  | .box k o => (match go M k with
    | some (.cells _ l) => if T.agg then (o + T.size ≤ l.length, .agg ((l.drop o).take T.size)) else (o < l.length, (l.drop o).headD .any)
    | _ => bad)
  | .elt k s i j => (match go M k with
    | some (.arr _ _ sz n f) => if T.agg then (i < n ∧ s = sz ∧ j + T.size ≤ (f i).length, .agg ((((f i).drop j).take T.size).map .d)) else (i < n ∧ s = sz ∧ j < (f i).length, .d (((f i).drop j).headD .any))
    | _ => bad)
  | _ => bad

theorem headD_drop {α : Type} (l : List α) (o : Nat) (d : α) : (l.drop o).headD d = (l[o]?).getD d := by
  rw [List.headD_eq_head?_getD, List.head?_drop]

theorem RelC.take {Im : Nat → Prop} : (i : Nat) → (l : List D) → (b o : Nat) → RelC Im w l b o → RelC Im w (l.take i) b o
  | 0, l, b, o, r => by simp [RelC]
  | i + 1, [], b, o, r => by simp [RelC]
  | i + 1, x :: l, b, o, r => by
    simp only [RelC] at r
    simp only [List.take_succ_cons, RelC]
    exact ⟨r.1, RelC.take i l b (o + 1) r.2⟩

theorem load_ptr {t : TypeId} {β : Nat → Value} {Im : Nat → Prop} (b o : Nat) (l : List D) (h : RelC Im w l b o) (hok : (ty P t).ok = true) :
    ((ty P t).agg = true → (ty P t).size ≤ l.length → ∃ r, (loadVar t ⟨b, o, none⟩).run P w = .ok r w ∧ RelV β Im w (.agg ((l.take (ty P t).size).map .d)) r) ∧
    ((ty P t).agg = false → 0 < l.length → ∃ r, (loadVar t ⟨b, o, none⟩).run P w = .ok r w ∧ RelV β Im w (.d (l.headD .any)) r) := by
  constructor
  · intro ha hs
    obtain ⟨vs, h1, h2⟩ := run_loadRow (P := P) (β := β) b o (l.take (ty P t).size) (RelC.take _ l b o h)
    rw [List.length_take, Nat.min_eq_left hs] at h1
    exact ⟨_, loadVar_agg hok ha h1, by simp only [RelV]; exact ⟨vs, rfl, h2⟩⟩
  · intro ha hs
    cases l with
    | nil => simp at hs
    | cons x r =>
      simp only [RelC] at h
      obtain ⟨⟨u, hu, hx⟩, _⟩ := h
      exact ⟨u, loadVar_one hok ha hu, by simpa only [RelV, List.headD_cons] using hx⟩

/-- an element's cells, as they can be read -/
theorem arr_cells {fr : Bool} {e : TypeId} {sz n : Nat} {f : Nat → List D} {β : Nat → Value} {ρ Im : Nat → Prop} {v : Value} (hρ : ∀ b, ρ b → Im b) (r : RelO β ρ Im w (.arr fr e sz n f) v) {i : Nat} (hi : i < n) :
    ∃ g cap, v = .slice (some ⟨g, 0, none⟩) n cap ∧ RelC Im w (f i) g (i * sz) := by
  cases fr with
  | true =>
    simp only [RelO] at r
    obtain ⟨xs, T, h1, h2, h3, h4, h5⟩ := r
    rcases own_cells h1 with ⟨hn, _⟩ | ⟨g, cap, hv, hc⟩
    · omega
    · exact ⟨g, cap, hv, OwnC.rel (f i) (T i) (fun b hb => hρ b (h3 i b hb)) xs g hc (i * sz) sz (h5 i hi)⟩
  | false =>
    simp only [RelO] at r
    obtain ⟨xs, h1, h2, h5⟩ := r
    rcases own_cells h1 with ⟨hn, _⟩ | ⟨g, cap, hv, hc⟩
    · omega
    · exact ⟨g, cap, hv, RelDs.cells (f i) xs g hc (i * sz) sz (h5 i hi)⟩

/-- reading a box -/
theorem box_row {b : Nat} {vs : Array Value} {ty' : TypeId} {fr : Nat × Nat} (hb : w.heap[b]? = some (.cells vs ty' fr)) (o n : Nat) (hn : o + n ≤ vs.size) :
    (loadCells ⟨b, o, none⟩ n).run P w = .ok ((vs.toList.drop o).take n).toArray w := by
  have hlen : ((vs.toList.drop o).take n).length = n := by simp; omega
  have := run_loadCells_list (P := P) w ⟨b, o, none⟩ ((vs.toList.drop o).take n) (fun j v hj => by
    rw [Addr.add_lit]
    rw [cell_of_row w b (o + j) vs ty' fr hb]
    rw [List.getElem?_take] at hj
    split at hj
    · rw [List.getElem?_drop] at hj; simpa using hj
    · cases hj)
  rwa [hlen] at this

theorem evLoad_ok {t : TypeId} (hp : Hp F p M w) (x : AV) (u : Value) (hok : (ty P t).ok = true) (h : RelV p.β (Imm F p M w) w x u) (hv : (evLoad (ty P t) M x).1) :
    ∃ r, (Instr.loadAt t u).run P w = .ok r w ∧ RelV p.β (Imm F p M w) w (evLoad (ty P t) M x).2 r := by
  unfold evLoad at hv ⊢
  cases x with
  | d y =>
    simp only at hv ⊢
    cases hy : pt y with
    | none => rw [hy] at hv; exact hv.elim
    | some cs =>
      rw [hy] at hv
      obtain rfl := pt_some hy
      simp only [RelV, RelD] at h
      obtain ⟨b, o, rfl, hb, hc⟩ := h
      have hl := load_ptr (P := P) (t := t) (β := p.β) b o cs hc hok
      cases ha : (ty P t).agg with
      | true =>
        simp only [ha, if_true] at hv ⊢
        obtain ⟨r, h1, h2⟩ := hl.1 ha hv
        exact ⟨r, by simpa [Instr.loadAt, Instr.sureAddr] using h1, h2⟩
      | false =>
        simp only [ha, Bool.false_eq_true, if_false] at hv ⊢
        obtain ⟨r, h1, h2⟩ := hl.2 ha hv
        exact ⟨r, by simpa [Instr.loadAt, Instr.sureAddr] using h1, h2⟩
  | box k o =>
    simp only at hv ⊢
    cases hg : go M k with
    | none => rw [hg] at hv; exact hv.elim
    | some ob =>
      rw [hg] at hv
      cases ob with
      | arr _ _ _ _ _ => exact hv.elim
      | cells ty' l =>
        simp only [RelV] at h
        obtain ⟨b, hβ, rfl⟩ := h
        have hob := hp.objs k _ hg
        simp only [RelO] at hob
        obtain ⟨b', vs, hβ', hb, hl⟩ := hob
        obtain rfl : b = b' := by rw [hβ] at hβ'; simpa using hβ'
        have hlen := RelL.len l _ hl
        cases ha : (ty P t).agg with
        | true =>
          simp only [ha, if_true] at hv ⊢
          refine ⟨.agg ((vs.toList.drop o).take (ty P t).size).toArray, ?_, ?_⟩
          · have := loadVar_agg (P := P) (t := t) (w := w) (a := ⟨b, o, none⟩) hok ha (box_row hb o _ (by simp at hlen; omega))
            simpa [Instr.loadAt, Instr.sureAddr] using this
          · simp only [RelV]
            exact ⟨_, rfl, RelL.take _ _ _ (RelL.drop _ _ _ hl)⟩
        | false =>
          simp only [ha, Bool.false_eq_true, if_false] at hv ⊢
          have hget := List.getElem?_eq_getElem hv
          obtain ⟨u, hu1, hu2⟩ := RelL.get l _ hl o _ hget
          refine ⟨u, ?_, by rw [headD_drop, hget]; exact hu2⟩
          have := loadVar_one (P := P) (t := t) (w := w) (a := ⟨b, o, none⟩) (v := u) hok ha (by rw [cell_of_row w b o vs ty' (0, 0) hb]; simpa using hu1)
          simpa [Instr.loadAt, Instr.sureAddr] using this
  | elt k s i j =>
    simp only at hv ⊢
    cases hg : go M k with
    | none => rw [hg] at hv; exact hv.elim
    | some ob =>
      rw [hg] at hv
      cases ob with
      | cells ty' l => exact hv.elim
      | arr fr e sz n f =>
        simp only [RelV] at h
        obtain ⟨b, n', cap, hβ, rfl⟩ := h
        have hl : Live M k := by unfold Live; rw [hg]; rfl
        have key : ∀ (hi : i < n), s = sz → RelC (Imm F p M w) w ((f i).drop j) b (i * s + j) := by
          intro hi hs
          obtain ⟨g, cap', hv', hc⟩ := arr_cells (fun b hb => (hp.priv k b hl hb).1) (hp.objs k _ hg) hi
          rw [hβ] at hv'
          simp only [Value.slice.injEq, Option.some.injEq, Addr.mk.injEq, and_true] at hv'
          obtain ⟨rfl, _, _⟩ := hv'
          subst hs
          exact RelC.drop j (f i) b (i * s) hc
        cases ha : (ty P t).agg with
        | true =>
          simp only [ha, if_true] at hv ⊢
          obtain ⟨r, h1, h2⟩ := (load_ptr (P := P) (t := t) (β := p.β) b _ _ (key hv.1 hv.2.1) hok).1 ha (by rw [List.length_drop]; omega)
          exact ⟨r, by simpa [Instr.loadAt, Instr.sureAddr] using h1, h2⟩
        | false =>
          simp only [ha, Bool.false_eq_true, if_false] at hv ⊢
          obtain ⟨r, h1, h2⟩ := (load_ptr (P := P) (t := t) (β := p.β) b _ _ (key hv.1 hv.2.1) hok).2 ha (by rw [List.length_drop]; omega)
          exact ⟨r, by simpa [Instr.loadAt, Instr.sureAddr] using h1, h2⟩
  | any => exact hv.elim
  | own k => exact hv.elim
  | agg l => exact hv.elim
  | tup l => exact hv.elim
  | gd q v => exact hv.elim
  | fn f l => exact hv.elim

end
end Go.Am

/- The abstract machine: arithmetic, tests, tuples, lengths. -/
namespace Go.Am
open Go.RowKit

section
variable {P : Program} {β : Nat → Value} {Im : Nat → Prop} {w : World}

/-- a result of arithmetic: an int must hold it, the others wrap -/
def ar (k : IntKind) (n : Int) : Prop × AV :=
  match k with
  | .i64 => (inK .i64 n, .d (.int .i64 n))
  | k => (True, .d (.int k (k.wrap n)))

theorem ar_ok (k : IntKind) (n : Int) (hv : (ar k n).1) : RelV β Im w (ar k n).2 (.int k (k.wrap n)) := by
  cases k
  case i64 =>
    simp only [ar] at hv
    simp only [ar, RelV, RelD, wrap_in hv, true_and]
    exact hv
  all_goals
    simp only [ar, RelV, RelD, true_and]
    exact wrap_inK _ _

def evInt (op : BinOp) (k : IntKind) (a b : Int) : Prop × AV :=
  match op with
  | .add => ar k (a + b)
  | .sub => ar k (a - b)
  | .mul => ar k (a * b)
  | .quo => (b ≠ 0 ∧ (ar k (a.tdiv b)).1, (ar k (a.tdiv b)).2)
  | .rem => (b ≠ 0 ∧ inK k (a.tmod b), .d (.int k (a.tmod b)))
  | .eql => (True, .d (.bool (a == b)))
  | .neq => (True, .d (.bool (a != b)))
  | .lss => (True, .d (.bool (decide (a < b))))
  | .leq => (True, .d (.bool (decide (a ≤ b))))
  | .gtr => (True, .d (.bool (decide (b < a))))
  | .geq => (True, .d (.bool (decide (b ≤ a))))
  | _ => bad

theorem evInt_ok (op : BinOp) (k : IntKind) (a b : Int) (t : TypeId) (x y : Operand) (hv : (evInt op k a b).1) :
    ∃ r, (do eqGuard op t x y (.int k a) (.int k b); binOp op t (.int k a) (.int k b) : Sem Value).run P w = .ok r w ∧ RelV β Im w (evInt op k a b).2 r := by
  cases op
  case add => exact ⟨.int k (k.wrap (a + b)), by simp [eqGuard, binOp, Op.intArith], ar_ok k _ hv⟩
  case sub => exact ⟨.int k (k.wrap (a - b)), by simp [eqGuard, binOp, Op.intArith], ar_ok k _ hv⟩
  case mul => exact ⟨.int k (k.wrap (a * b)), by simp [eqGuard, binOp, Op.intArith], ar_ok k _ hv⟩
  case quo =>
    simp only [evInt] at hv ⊢
    exact ⟨.int k (k.wrap (a.tdiv b)), by simp [eqGuard, binOp, Op.intDiv, hv.1], ar_ok k _ hv.2⟩
  case rem =>
    simp only [evInt] at hv ⊢
    exact ⟨.int k (a.tmod b), by simp [eqGuard, binOp, Op.intDiv, hv.1], by simp only [RelV, RelD, true_and]; exact hv.2⟩
  case eql => exact ⟨.bool (a == b), by simp [eqGuard, binOp, Op.intCmp], by simp only [evInt, RelV, RelD]⟩
  case neq => exact ⟨.bool (a != b), by simp [eqGuard, binOp, Op.intCmp], by simp only [evInt, RelV, RelD]⟩
  case lss => exact ⟨.bool (decide (a < b)), by simp [eqGuard, binOp, Op.intCmp], by simp only [evInt, RelV, RelD]⟩
  case leq => exact ⟨.bool (decide (a ≤ b)), by simp [eqGuard, binOp, Op.intCmp], by simp only [evInt, RelV, RelD]⟩
  case gtr => exact ⟨.bool (decide (b < a)), by simp [eqGuard, binOp, Op.intCmp], by simp only [evInt, RelV, RelD]⟩
  case geq => exact ⟨.bool (decide (b ≤ a)), by simp [eqGuard, binOp, Op.intCmp], by simp only [evInt, RelV, RelD]⟩
  all_goals exact hv.elim

def evStr (op : BinOp) (a b : ByteArray) : Prop × AV :=
  match op with
  | .add => (a.size + b.size ≤ nb, .d (.str (a ++ b)))
  | .eql => (True, .d (.bool (a.toList == b.toList)))
  | .neq => (True, .d (.bool (!(a.toList == b.toList))))
  | .lss => (True, .d (.bool (Op.bytesLess a.toList b.toList)))
  | .leq => (True, .d (.bool (Op.bytesLess a.toList b.toList || a.toList == b.toList)))
  | .gtr => (True, .d (.bool (!(Op.bytesLess a.toList b.toList || a.toList == b.toList))))
  | .geq => (True, .d (.bool (!(Op.bytesLess a.toList b.toList))))
  | _ => bad

theorem evStr_ok (op : BinOp) (a b : ByteArray) (t : TypeId) (x y : Operand) (hv : (evStr op a b).1) :
    ∃ r, (do eqGuard op t x y (.string a) (.string b); binOp op t (.string a) (.string b) : Sem Value).run P w = .ok r w ∧ RelV β Im w (evStr op a b).2 r := by
  cases op
  case add =>
    simp only [evStr] at hv ⊢
    have h1 : ¬ (((a.size + b.size : Nat) : Int) > IntKind.i64.max) := by simp only [nb] at hv; simp [IntKind.max, IntKind.signed, IntKind.bits]; omega
    refine ⟨.string (a ++ b), ?_, ?_⟩
    · have h2 : ¬ (9223372036854775807 < (a.size : Int) + b.size) := by simp only [nb] at hv; omega
      simp [eqGuard, binOp, Op.stringOp, IntKind.max, IntKind.signed, IntKind.bits, h2]
    · simp only [RelV, RelD, true_and]; rw [ByteArray.size_append]; exact hv
  case eql => exact ⟨.bool (a.toList == b.toList), by simp [eqGuard, binOp, Op.stringOp], by simp only [evStr, RelV, RelD]⟩
  case neq => exact ⟨.bool (!(a.toList == b.toList)), by simp [eqGuard, binOp, Op.stringOp], by simp only [evStr, RelV, RelD]⟩
  case lss => exact ⟨.bool (Op.bytesLess a.toList b.toList), by simp [eqGuard, binOp, Op.stringOp], by simp only [evStr, RelV, RelD]⟩
  case leq => exact ⟨.bool (Op.bytesLess a.toList b.toList || a.toList == b.toList), by simp [eqGuard, binOp, Op.stringOp], by simp only [evStr, RelV, RelD]⟩
  case gtr => exact ⟨.bool (!(Op.bytesLess a.toList b.toList || a.toList == b.toList)), by simp [eqGuard, binOp, Op.stringOp], by simp only [evStr, RelV, RelD]⟩
  case geq => exact ⟨.bool (!(Op.bytesLess a.toList b.toList)), by simp [eqGuard, binOp, Op.stringOp], by simp only [evStr, RelV, RelD]⟩
  all_goals exact hv.elim

def evBin (T : Ty) (op : BinOp) (x y : AV) : Prop × AV :=
  match x, y with
  | .d (.int k a), .d (.int k' b) => (k = k' ∧ (evInt op k a b).1, (evInt op k a b).2)
  | .d (.bool a), .d (.bool b) => (match op with
    | .eql => (T.ok = true ∧ T.bl = true, .d (.bool (a == b)))
    | .neq => (T.ok = true ∧ T.bl = true, .d (.bool (a != b)))
    | _ => bad)
  | .d (.str a), .d (.str b) => evStr op a b
  | _, _ => bad

theorem evBin_ok (op : BinOp) (t : TypeId) (x y : Operand) (ax ay : AV) (u v : Value) (h : RelV β Im w ax u) (h' : RelV β Im w ay v) (hv : (evBin (ty P t) op ax ay).1) :
    ∃ r, (do eqGuard op t x y u v; binOp op t u v : Sem Value).run P w = .ok r w ∧ RelV β Im w (evBin (ty P t) op ax ay).2 r := by
  unfold evBin at hv ⊢
  split at hv
  · simp only [RelV, RelD] at h h'
    obtain ⟨rfl, _⟩ := h
    obtain ⟨rfl, _⟩ := h'
    obtain ⟨rfl, hv⟩ := hv
    exact evInt_ok op _ _ _ t x y hv
  · simp only [RelV, RelD] at h h'
    subst h; subst h'
    rename_i a b
    cases op
    case eql =>
      obtain ⟨h1, h2⟩ := hv
      obtain ⟨i, d, hi, hd⟩ := ty_some h1
      rw [ty_of hi hd] at h2
      simp only [tyOf] at h2
      cases d <;> simp at h2
      exact ⟨.bool (a == b), by simp [eqGuard, run_eql_bool w t a b hd], by simp only [RelV, RelD]⟩
    case neq =>
      obtain ⟨h1, h2⟩ := hv
      obtain ⟨i, d, hi, hd⟩ := ty_some h1
      rw [ty_of hi hd] at h2
      simp only [tyOf] at h2
      cases d <;> simp at h2
      exact ⟨.bool (a != b), by simp [eqGuard, binOp, run_equal_bool w t a b hd]; cases a <;> cases b <;> rfl, by simp only [RelV, RelD]⟩
    all_goals exact hv.elim
  · simp only [RelV, RelD] at h h'
    obtain ⟨rfl, _⟩ := h
    obtain ⟨rfl, _⟩ := h'
    exact evStr_ok op _ _ t x y hv
  · exact hv.elim

def evUn (op : UnOp) (x : AV) : Prop × AV :=
  match op, x with
  | .not, .d (.bool b) => (True, .d (.bool (!b)))
  | .neg, .d (.int k n) => ar k (0 - n)
  | _, _ => bad

theorem evUn_ok (op : UnOp) (x : AV) (u : Value) (h : RelV β Im w x u) (hv : (evUn op x).1) : ∃ r, (Op.unary op u).run P w = .ok r w ∧ RelV β Im w (evUn op x).2 r := by
  unfold evUn at hv ⊢
  split at hv
  · simp only [RelV, RelD] at h
    subst h
    exact ⟨_, by simp [Op.unary]; rfl, by simp only [RelV, RelD]⟩
  · simp only [RelV, RelD] at h
    obtain ⟨rfl, _⟩ := h
    exact ⟨_, by simp [Op.unary, Op.intArith]; rfl, by simpa using ar_ok _ _ hv⟩
  · exact hv.elim

/-- a number as another kind -/
def evConv (T U : Ty) (x : AV) : Prop × AV :=
  match x, T.int, U.int with
  | .d (.int k n), some k1, some k' => if k = k' then (k1 = k ∧ T.ok = true ∧ U.ok = true, .d (.int k n)) else (k1 = k ∧ T.ok = true ∧ U.ok = true, .d (.int k' (k'.wrap n)))
  | _, _, _ => bad

theorem evConv_ok (s d : TypeId) (x : AV) (u : Value) (h : RelV β Im w x u) (hv : (evConv (ty P s) (ty P d) x).1) : ∃ r, (convert s d u).run P w = .ok r w ∧ RelV β Im w (evConv (ty P s) (ty P d) x).2 r := by
  unfold evConv at hv ⊢
  split at hv
  · rename_i k n k1 k' h1 h2
    have hok : (ty P s).ok = true ∧ (ty P d).ok = true := by
      split at hv
      · exact hv.2
      · exact hv.2
    obtain ⟨i, c, hi, hc⟩ := ty_some hok.1
    obtain ⟨i', c', hi', hc'⟩ := ty_some hok.2
    rw [ty_of hi hc] at h1
    rw [ty_of hi' hc'] at h2
    simp only [tyOf] at h1 h2
    cases c <;> simp at h1
    cases c' <;> simp at h2
    subst h1; subst h2
    simp only [RelV, RelD] at h
    obtain ⟨rfl, hk⟩ := h
    rename_i kd
    refine ⟨.int kd (kd.wrap n), by simp [convert, run_underlying hc, run_underlying hc', Conv.intToInt], ?_⟩
    split
    · rename_i e
      subst e
      simp only [RelV, RelD]
      exact ⟨by rw [wrap_in hk], hk⟩
    · simp only [RelV, RelD, true_and]
      exact wrap_inK _ _
  · exact hv.elim

def evExt (x : AV) (i : Nat) : Prop × AV :=
  match x with
  | .tup l => (i < l.length, (l[i]?).getD .any)
  | _ => bad

theorem evExt_ok (x : AV) (i : Nat) (u : Value) (h : RelV β Im w x u) (hv : (evExt x i).1) : ∃ r, (Instr.extract u i).run P w = .ok r w ∧ RelV β Im w (evExt x i).2 r := by
  cases x with
  | tup l =>
    simp only [evExt] at hv ⊢
    simp only [RelV] at h
    obtain ⟨vs, rfl, hl⟩ := h
    have hget := List.getElem?_eq_getElem hv
    obtain ⟨u, hu1, hu2⟩ := RelL.get l vs hl i _ hget
    exact ⟨u, by simp [Instr.extract, hu1], by rw [hget]; exact hu2⟩
  | any => exact hv.elim
  | own k => exact hv.elim
  | agg l => exact hv.elim
  | d x => exact hv.elim
  | gd q v => exact hv.elim
  | fn f l => exact hv.elim
  | box k o => exact hv.elim
  | elt k s i' j => exact hv.elim

/-- '&&', '||': one of two -/
def AV.boolV : AV → Bool
  | .d (.bool b) => b
  | .gd _ v => v.boolV
  | _ => false
def AV.okBool : AV → Prop
  | .d (.bool _) => True
  | .gd p v => p ∧ v.okBool
  | _ => False

theorem boolV_ok : (x : AV) → (v : Value) → x.okBool → RelV β Im w x v → v = .bool x.boolV
  | .d (.bool b), v, _, r => by simp only [RelV, RelD] at r; simpa [AV.boolV] using r
  | .gd p x, v, h, r => by
    simp only [AV.okBool] at h
    simp only [RelV] at r
    simp only [AV.boolV]
    exact boolV_ok x v h.2 (r.1 h.1)
  | .any, v, h, r => h.elim
  | .own _, v, h, r => h.elim
  | .agg _, v, h, r => h.elim
  | .tup _, v, h, r => h.elim
  | .fn _ _, v, h, r => h.elim
  | .box _ _, v, h, r => h.elim
  | .elt _ _ _ _, v, h, r => h.elim
  | .d .any, v, h, r => h.elim
  | .d (.int _ _), v, h, r => h.elim
  | .d (.str _), v, h, r => h.elim
  | .d (.raw _), v, h, r => h.elim
  | .d (.seq _ _ _), v, h, r => h.elim
  | .d (.ptr _), v, h, r => h.elim

def evPick (c a b : AV) : Prop × AV :=
  (c.okBool ∧ (c.boolV = true → a.okBool) ∧ (c.boolV = false → b.okBool), .d (.bool (bif c.boolV then a.boolV else b.boolV)))

theorem evPick_ok (c a b : AV) (vc va vb : Value) (h : RelV β Im w c vc) (ha : RelV β Im w a va) (hb : RelV β Im w b vb) (hv : (evPick c a b).1) :
    ∃ r, (do pure (if ← asBool vc then va else vb) : Sem Value).run P w = .ok r w ∧ RelV β Im w (evPick c a b).2 r := by
  obtain ⟨h1, h2, h3⟩ := hv
  have hc := boolV_ok c vc h1 h
  subst hc
  simp only [evPick]
  cases hcb : c.boolV with
  | true =>
    have := boolV_ok a va (h2 hcb) ha
    subst this
    exact ⟨.bool a.boolV, by simp [asBool], by simp only [RelV, RelD, cond_true]⟩
  | false =>
    have := boolV_ok b vb (h3 hcb) hb
    subst this
    exact ⟨.bool b.boolV, by simp [asBool], by simp only [RelV, RelD, cond_false]⟩

/-- a byte of a string -/
def evIx (T : Ty) (x i : AV) : Prop × AV :=
  match x, i with
  | .d (.str s), .d (.int _ n) => (T.ok = true ∧ T.st = true ∧ 0 ≤ n ∧ n < s.size, .d (.int .u8 ((s.data.toList.getD n.toNat 0).toNat)))
  | _, _ => bad

theorem evIx_ok (t : TypeId) (x i : AV) (u v : Value) (h : RelV β Im w x u) (h' : RelV β Im w i v) (hv : (evIx (ty P t) x i).1) : ∃ r, (Instr.index t u v).run P w = .ok r w ∧ RelV β Im w (evIx (ty P t) x i).2 r := by
  unfold evIx at hv ⊢
  split at hv
  · rename_i s k n
    simp only [RelV, RelD] at h h'
    obtain ⟨rfl, _⟩ := h
    obtain ⟨rfl, _⟩ := h'
    obtain ⟨h1, h2, h3, h4⟩ := hv
    obtain ⟨inf, c, hi, hc⟩ := ty_some h1
    rw [ty_of hi hc] at h2
    simp only [tyOf] at h2
    cases c <;> simp at h2
    have hlt : n.toNat < s.size := by omega
    have hb : (s.data.toList.getD n.toNat 0) = s[n.toNat] := by
      rw [List.getD_eq_getElem?_getD, List.getElem?_eq_getElem (by simpa using hlt)]; rfl
    refine ⟨.int .u8 (s[n.toNat]).toNat, ?_, ?_⟩
    · simp [Instr.index, asIntOf, run_underlying hc, h3, hlt, getElem?_pos]
    · simp only [RelV, RelD]
      rw [hb]
      refine ⟨rfl, ?_⟩
      have := (s[n.toNat]).toNat_lt
      have := (inK_u8 (s[n.toNat]).toNat).2 ⟨by omega, by omega⟩
      exact this
  · exact hv.elim

end

section
variable {P : Program} {F : Fr} {p : Pl} {M : List (Nat × AObj)} {w : World}

def evLen (T : Ty) (M : List (Nat × AObj)) (x : AV) : Prop × AV :=
  match x with
  | .d (.str s) => (T.ok = true ∧ T.st = true, .d (.int .i64 s.size))
  | .d y => (match sq y with | some (_, n, _) => (T.ok = true ∧ T.el.isSome = true, .d (.int .i64 n)) | none => bad)
  | .own k => (match go M k with | some (.arr _ _ _ n _) => (T.ok = true ∧ T.el.isSome = true, .d (.int .i64 n)) | _ => bad)
  | _ => bad

theorem nb_i64 {n : Nat} (h : n ≤ nb) : IntKind.i64.min ≤ (n : Int) ∧ (n : Int) ≤ IntKind.i64.max := (inK_i64 n).2 ⟨by omega, by simp only [nb] at h; omega⟩

theorem run_len_slice {t ty' : TypeId} (a : Option Addr) (n cap : Nat) (h1 : (ty P t).ok = true) (h2 : (ty P t).el.isSome = true) : (Builtin.len_ #[t] ty' #[.slice a n cap]).run P w = .ok (.int .i64 n) w := by
  obtain ⟨inf, c, hi, hc⟩ := ty_some h1
  rw [ty_of hi hc] at h2
  simp only [tyOf] at h2
  cases c <;> simp at h2
  simp [Builtin.len_, run_underlying hc, goInt]

theorem evLen_ok {t ty' : TypeId} (hp : Hp F p M w) (x : AV) (u : Value) (h : RelV p.β (Imm F p M w) w x u) (hv : (evLen (ty P t) M x).1) :
    ∃ r, (Builtin.len_ #[t] ty' #[u]).run P w = .ok r w ∧ RelV p.β (Imm F p M w) w (evLen (ty P t) M x).2 r := by
  unfold evLen at hv ⊢
  split at hv
  · rename_i s
    obtain ⟨h1, h2⟩ := hv
    obtain ⟨inf, c, hi, hc⟩ := ty_some h1
    rw [ty_of hi hc] at h2
    simp only [tyOf] at h2
    cases c <;> simp at h2
    simp only [RelV, RelD] at h
    obtain ⟨rfl, hs⟩ := h
    exact ⟨.int .i64 s.size, by simp [Builtin.len_, run_underlying hc, goInt], by simp only [RelV, RelD, true_and]; exact nb_i64 hs⟩
  · rename_i y _
    cases hy : sq y with
    | none => rw [hy] at hv; exact hv.elim
    | some q =>
      obtain ⟨sz, n, f⟩ := q
      rw [hy] at hv
      obtain rfl := sq_some hy
      simp only [RelV, RelD] at h
      obtain ⟨oa, cap, rfl, hn, _⟩ := h
      exact ⟨.int .i64 n, run_len_slice _ _ _ hv.1 hv.2, by simp only [RelV, RelD, true_and]; exact nb_i64 hn⟩
  · rename_i k
    cases hg : go M k with
    | none => rw [hg] at hv; exact hv.elim
    | some ob =>
      rw [hg] at hv
      cases ob with
      | cells ty' l => exact hv.elim
      | arr fr e sz n f =>
        simp only [RelV] at h
        subst h
        obtain ⟨xs, hown, hn⟩ := (hp.objs k _ hg).arr_own
        refine ⟨.int .i64 n, ?_, by simp only [RelV, RelD, true_and]; exact nb_i64 hn⟩
        rcases own_cells hown with ⟨hn0, hv0⟩ | ⟨g, cap, hv0, _⟩
        · rw [hv0, hn0]; exact run_len_slice _ _ _ hv.1 hv.2
        · rw [hv0]; exact run_len_slice _ _ _ hv.1 hv.2
  · exact hv.elim

/-- x[lo:hi] of what is only read -/
def evSl (P : Program) (T : Ty) (x : AV) (lo hi : Option AV) : Prop × AV :=
  match x with
  | .d (.str s) => (match lo, hi with
    | none, none => (T.ok = true ∧ T.st = true, .d (.str s))
    | some (.d (.int _ l)), none => (T.ok = true ∧ T.st = true ∧ 0 ≤ l ∧ l ≤ s.size, .d (.str (s.extract l.toNat s.size)))
    | none, some (.d (.int _ h)) => (T.ok = true ∧ T.st = true ∧ 0 ≤ h ∧ h ≤ s.size, .d (.str (s.extract 0 h.toNat)))
    | some (.d (.int _ l)), some (.d (.int _ h)) => (T.ok = true ∧ T.st = true ∧ 0 ≤ l ∧ l ≤ h ∧ h ≤ s.size, .d (.str (s.extract l.toNat h.toNat)))
    | _, _ => bad)
  | .d y => (match sq y, T.el with
    | some (sz, n, f), some e => (match lo, hi with
      | some (.d (.int _ l)), none => (T.ok = true ∧ (ty P e).ok = true ∧ sz = (ty P e).size ∧ 0 ≤ l ∧ l ≤ n, .d (.seq sz (n - l.toNat) (fun i => f (l.toNat + i))))
      | none, some (.d (.int _ h)) => (T.ok = true ∧ (ty P e).ok = true ∧ sz = (ty P e).size ∧ 0 ≤ h ∧ h ≤ n, .d (.seq sz h.toNat f))
      | some (.d (.int _ l)), some (.d (.int _ h)) => (T.ok = true ∧ (ty P e).ok = true ∧ sz = (ty P e).size ∧ 0 ≤ l ∧ l ≤ h ∧ h ≤ n, .d (.seq sz (h.toNat - l.toNat) (fun i => f (l.toNat + i))))
      | _, _ => bad)
    | _, _ => bad)
  | _ => bad

end
end Go.Am

/- The abstract machine: operations that make memory or write it. -/
namespace Go.Am
open Go.RowKit

/-- The kit's law on append, with where the result lies. -/
theorem run_append_own' {P : Program} (w : World) (t ty e : TypeId) (i : TypeInfo) (z : Value) (size bytes : Nat) (ht : P.underlying t = some (.slice e)) (hi : P.info? e = some i) (hz : i.zero = some z)
    (hsize : i.size = size) (hby : i.bytes = bytes) (hzs : z.cells.size = size)
    (v : Value) (n : Nat) (xs : List Value) (hown : w.ownsRow 0 e size v n xs)
    (a : Addr) (m c : Nat) (news : List Value) (hl : news.length = m * size) (hnews : ∀ (j : Nat) (u : Value), news[j]? = some u → w.cell? (a.add j) = some u) (h1 : ∀ u ∈ news, u.oneCell' = true)
    (h63 : n + m ≤ maxLen) (hbytes : (n + m) * bytes ≤ 140737488355328) :
    ∃ v' w', (Builtin.append_ #[t, t] ty #[v, .slice (some a) m c]).run P w = .ok v' w' ∧ w'.ownsRow 0 e size v' (n + m) (xs ++ news) ∧ w.grownBy w' (root v) ∧
      (∀ b, root v' = some b → (root v = some b ∨ w.heap.size ≤ b) ∧ b < w'.heap.size) := by
  subst hsize
  subst hby
  have hsmall : n + m ≤ 9223372036854775807 := by simp only [maxLen] at h63; omega
  have hlen : (xs ++ news).length = (n + m) * i.size := by rw [List.length_append, hown.1, hl, Nat.add_mul]
  have grown : ∀ (old : Nat) (row : Option Nat),
      (w.drew.alloc (.cells (xs.toArray ++ news.toArray ++ Builtin.zeroCells z.cells (grownCap w (n + m) old e - (n + m))) e)).ownsRow 0 e i.size
        (.slice (some ⟨w.heap.size, 0, none⟩) (n + m) (grownCap w (n + m) old e)) (n + m) (xs ++ news) ∧
      w.grownBy (w.drew.alloc (.cells (xs.toArray ++ news.toArray ++ Builtin.zeroCells z.cells (grownCap w (n + m) old e - (n + m))) e)) row := by
    intro old row
    have hge := grownCap_ge w (n + m) old e
    have hcm : grownCap w (n + m) old e ≤ maxLen := grownCap_le_maxLen w (n + m) old e h63
    refine ⟨⟨hlen, .inr ⟨w.heap.size, _, _, rfl, Nat.zero_le _, heap_alloc_new w.drew _, hge, hcm, ?_, ?_⟩⟩, ⟨rfl, rfl, rfl, by simp, fun k hk _ => Below.heap_alloc w.drew _ k hk⟩⟩
    · simp only [Array.size_append, List.size_toArray, size_zeroCells, hzs, hown.1, hl, ← Nat.add_mul]
      congr 1
      omega
    · simp only [Array.toList_append, List.append_assoc]
      rw [← List.append_assoc, ← hlen]
      exact List.take_left
  rcases hown.2 with ⟨rfl, rfl⟩ | ⟨g, cap, cur, rfl, hbg, hg, hnc, hcm, hcs, htake⟩
  · have hx : xs = [] := List.eq_nil_of_length_eq_zero (by simpa using hown.1)
    subst hx
    by_cases hm : m = 0
    · subst hm
      have hn : news = [] := List.eq_nil_of_length_eq_zero (by simpa using hl)
      subst hn
      refine ⟨.slice none 0 0, w, ?_, World.ownsRow_nil w 0 e i.size, ⟨rfl, rfl, rfl, Nat.le_refl _, fun _ _ _ => rfl⟩, fun b hb => by cases hb⟩
      simp [Builtin.append_, run_underlying ht, sizeOf, typeInfo, hi, Builtin.lenOf, Builtin.firstCells, loadCells, loadCellsFrom]
    · have hr := run_append_nil (P := P) w t ty e i z ht hi hz a m c news hl hnews (by omega) (by omega) (by have hb := hbytes; simp only [Nat.zero_add] at hb; omega)
      have hgr := grown 0 (root (.slice none 0 0))
      simp only [Nat.zero_add, List.nil_append, Array.empty_append] at hgr ⊢
      exact ⟨_, _, hr, hgr.1, hgr.2, fun b hb => by simp only [root, Option.some.injEq] at hb; subst hb; exact ⟨.inr (Nat.le_refl _), by simp⟩⟩
  · by_cases hroom : n + m ≤ cap
    · have hfit : n * i.size + news.length ≤ cur.size := by rw [hl, hcs, ← Nat.add_mul]; exact Nat.mul_le_mul_right _ hroom
      have hr := run_append_room (P := P) w t ty e i ht hi g n cap cur hg a m c news hl hnews h1 hroom hfit
      have hgrow : w.grownBy (w.setRow g (cur.toList.take (n * i.size) ++ news ++ cur.toList.drop (n * i.size + news.length)).toArray) (root (.slice (some ⟨g, 0, none⟩) n cap)) :=
        ⟨rfl, rfl, rfl, by simp, fun k _ hk => setRow_other w g k _ (fun e => hk (by simp [root, e]))⟩
      refine ⟨_, _, hr, ⟨hlen, .inr ⟨g, cap, _, rfl, hbg, setRow_heap w g cur _ e _ hg, hroom, hcm, ?_, ?_⟩⟩, hgrow, fun b hb => ?_⟩
      · simp only [List.size_toArray, List.length_append, List.length_take, List.length_drop, Array.length_toList]
        omega
      · rw [htake, ← hlen]
        exact List.take_left
      · simp only [root, Option.some.injEq] at hb; subst hb; exact ⟨.inl rfl, by simpa using (Array.getElem?_eq_some_iff.1 hg).1⟩
    · have holds : ∀ j u, xs[j]? = some u → w.cell? ((⟨g, 0, none⟩ : Addr).add j) = some u := hown.cells (g := g) rfl
      have hr := run_append_grow (P := P) w t ty e i z ht hi hz ⟨g, 0, none⟩ n cap xs hown.1 holds a m c news hl hnews (by omega) (by omega) (growslice_fits (by omega) hbytes)
      have hgr := grown cap (root (.slice (some ⟨g, 0, none⟩) n cap))
      exact ⟨_, _, hr, hgr.1, hgr.2, fun b hb => by simp only [root, Option.some.injEq] at hb; subst hb; exact ⟨.inr (Nat.le_refl _), by simp⟩⟩

/-! ### cells handed on into an object -/

/-- Cells as data: the data, the objects that go with them, and whether all of it is owned. -/
def cellsD (M : List (Nat × AObj)) : List AV → Option (List D × List Nat × Bool)
  | [] => some ([], [], true)
  | .d y :: r => (cellsD M r).map fun q => (y :: q.1, q.2.1, y.flat && q.2.2)
  | .own k :: r => (match go M k with
    | some (.arr fr _ sz n f) => (cellsD M r).map fun q => (.seq sz n f :: q.1, k :: q.2.1, fr && q.2.2)
    | _ => none)
  | _ => none

def delMs : List Nat → List (Nat × AObj) → List (Nat × AObj)
  | [], M => M
  | k :: r, M => delMs r (delM k M)
def killEs : List Nat → List (Nat × AV) → List (Nat × AV)
  | [], e => e
  | k :: r, e => killEs r (killE k e)

theorem St.dels {F : Fr} {p : Pl} {a : Act} {w : World} : (ks : List Nat) → {env : List (Nat × AV)} → {M : List (Nat × AObj)} → St F p env M a w → St F p (killEs ks env) (delMs ks M) a w
  | [], _, _, h => h
  | k :: r, _, _, h => St.dels r (h.del k)

theorem live_delMs {j : Nat} : {ks : List Nat} → {M : List (Nat × AObj)} → (Live (delMs ks M) j ↔ j ∉ ks ∧ Live M j)
  | [], _ => by simp [delMs]
  | k :: r, M => by
    simp only [delMs, live_delMs (ks := r), live_delM, List.mem_cons, not_or]
    constructor
    · rintro ⟨h1, h2, h3⟩; exact ⟨⟨h2, h1⟩, h3⟩
    · rintro ⟨⟨h1, h2⟩, h3⟩; exact ⟨h2, h1, h3⟩

theorem imm_delMs {F : Fr} {p : Pl} {ks : List Nat} {M : List (Nat × AObj)} {w : World} {b : Nat} (h : Imm F p M w b) : Imm F p (delMs ks M) w b :=
  ⟨h.1, h.2.1, fun k hk => h.2.2 k (live_delMs.1 hk).2⟩

theorem flat_rel {Im Im' : Nat → Prop} {w w' : World} {y : D} {v : Value} (hy : y.flat = true) (h : RelD Im w y v) : RelD Im' w' y v := by
  cases y <;> simp only [D.flat, Bool.false_eq_true] at hy <;> simpa only [RelD] using h
theorem flat_own {Im : Nat → Prop} {w w' : World} {y : D} {v : Value} (hy : y.flat = true) (h : RelD Im w y v) (S : Nat → Prop) : OwnD w' y S v := by
  cases y <;> simp only [D.flat, Bool.false_eq_true] at hy <;> simpa only [RelD, OwnD] using h

/-- The blocks that go with objects. -/
def Blks (p : Pl) (ks : List Nat) (b : Nat) : Prop := ∃ k, k ∈ ks ∧ (root (p.β k) = some b ∨ p.ρ k b)

theorem go_live {M : List (Nat × AObj)} {k : Nat} {o : AObj} (h : go M k = some o) : Live M k := by unfold Live; rw [h]; rfl

theorem arr_view {F : Fr} {p : Pl} {M : List (Nat × AObj)} {w : World} (hp : Hp F p M w) {k : Nat} {fr : Bool} {e : TypeId} {sz n : Nat} {f : Nat → List D} (hg : go M k = some (.arr fr e sz n f))
    (Im : Nat → Prop) (hIm : ∀ b, Imm F p M w b → Im b) (hr : ∀ b, root (p.β k) = some b → Im b) : RelD Im w (.seq sz n f) (p.β k) := by
  have ho := hp.objs k _ hg
  obtain ⟨xs, hown, hn⟩ := ho.arr_own
  simp only [RelD]
  rcases own_cells hown with ⟨hn0, hv0⟩ | ⟨g, cap, hv0, _⟩
  · exact ⟨none, 0, by rw [hv0, hn0], hn, fun _ => ⟨hn0, rfl⟩, fun a ha => by cases ha⟩
  · refine ⟨some ⟨g, 0, none⟩, cap, hv0, hn, fun h => by (cases h), fun a ha hpos => ?_⟩
    cases ha
    refine ⟨rfl, hr g (by rw [hv0]; rfl), fun i hi => ?_⟩
    obtain ⟨g', cap', hv', hc⟩ := arr_cells (fun b hb => (hp.priv k b (go_live hg) hb).1) ho hi
    rw [hv0] at hv'
    simp only [Value.slice.injEq, Option.some.injEq, Addr.mk.injEq, and_true] at hv'
    obtain ⟨rfl, _⟩ := hv'
    have : RelC (Imm F p M w) w (f i) g (0 + i * sz) := by simpa using hc
    exact RelC.keep (fun b hb => ⟨hIm b hb, rfl⟩) (f i) g _ rfl this

/-! what the cells of an object are -/

theorem RelO.arr_split {β : Nat → Value} {ρ Im : Nat → Prop} {w : World} {e : TypeId} {sz n : Nat} {f : Nat → List D} {v : Value} (r : RelO β ρ Im w (.arr true e sz n f) v) (hroot : ∀ b, ρ b → root v ≠ some b) :
    OwnD w (.seq sz n f) (fun b => root v = some b ∨ ρ b) v := by
  simp only [RelO] at r
  obtain ⟨xs, T, h1, h2, h3, h4, h5⟩ := r
  simp only [OwnD]
  exact ⟨e, xs, T, h1, h2, fun b hb => .inl hb, fun i b hb => ⟨.inr (h3 i b hb), hroot b (h3 i b hb)⟩, h4, h5⟩

theorem cellsD_live {M : List (Nat × AObj)} : (l : List AV) → {ds : List D} → {ks : List Nat} → {fr : Bool} → cellsD M l = some (ds, ks, fr) → ∀ k, k ∈ ks → Live M k
  | [], ds, ks, fr, h, k, hk => by simp only [cellsD, Option.some.injEq, Prod.mk.injEq] at h; obtain ⟨_, rfl, _⟩ := h; cases hk
  | .d y :: r, ds, ks, fr, h, k, hk => by
    simp only [cellsD, Option.map_eq_some_iff] at h
    obtain ⟨⟨ds', ks', fr'⟩, h1, h2⟩ := h
    simp only [Prod.mk.injEq] at h2
    obtain ⟨_, rfl, _⟩ := h2
    exact cellsD_live r h1 k hk
  | .own j :: r, ds, ks, fr, h, k, hk => by
    simp only [cellsD] at h
    split at h
    · rename_i hg
      simp only [Option.map_eq_some_iff] at h
      obtain ⟨⟨ds', ks', fr'⟩, h1, h2⟩ := h
      simp only [Prod.mk.injEq] at h2
      obtain ⟨_, rfl, _⟩ := h2
      rcases List.mem_cons.1 hk with rfl | hk
      · exact go_live hg
      · exact cellsD_live r h1 k hk
    · cases h
  | .any :: r, _, _, _, h, _, _ => by simp only [cellsD] at h; cases h
  | .box _ _ :: r, _, _, _, h, _, _ => by simp only [cellsD] at h; cases h
  | .elt _ _ _ _ :: r, _, _, _, h, _, _ => by simp only [cellsD] at h; cases h
  | .agg _ :: r, _, _, _, h, _, _ => by simp only [cellsD] at h; cases h
  | .tup _ :: r, _, _, _, h, _, _ => by simp only [cellsD] at h; cases h
  | .gd _ _ :: r, _, _, _, h, _, _ => by simp only [cellsD] at h; cases h
  | .fn _ _ :: r, _, _, _, h, _, _ => by simp only [cellsD] at h; cases h

theorem cellsD_own {F : Fr} {p : Pl} {M : List (Nat × AObj)} {w : World} (hp : Hp F p M w) : (l : List AV) → {ds : List D} → {ks : List Nat} → {fr : Bool} → (vs : List Value) → cellsD M l = some (ds, ks, fr) → fr = true → ks.Nodup → RelL p.β (Imm F p M w) w l vs → OwnC w ds (Blks p ks) vs
  | [], ds, ks, fr, vs, h, _, _, hr => by
    simp only [cellsD, Option.some.injEq, Prod.mk.injEq] at h
    obtain ⟨rfl, _, _⟩ := h
    simpa only [OwnC, RelL] using hr
  | .d y :: r, ds, ks, fr, vs, h, hfr, hnd, hr => by
    simp only [cellsD, Option.map_eq_some_iff] at h
    obtain ⟨⟨ds', ks', fr'⟩, h1, h2⟩ := h
    simp only [Prod.mk.injEq] at h2
    obtain ⟨rfl, rfl, rfl⟩ := h2
    simp only [Bool.and_eq_true] at hfr
    simp only [RelL] at hr
    obtain ⟨u, us, rfl, hu, hus⟩ := hr
    simp only [OwnC]
    exact ⟨u, us, fun _ => False, Blks p ks', rfl, fun b hb => hb.elim, fun b hb => hb, flat_own hfr.1 (by simpa only [RelV] using hu) _, cellsD_own hp r us h1 hfr.2 hnd hus⟩
  | .own j :: r, ds, ks, fr, vs, h, hfr, hnd, hr => by
    simp only [cellsD] at h
    split at h
    · rename_i fro e sz n f hg
      simp only [Option.map_eq_some_iff] at h
      obtain ⟨⟨ds', ks', fr'⟩, h1, h2⟩ := h
      simp only [Prod.mk.injEq] at h2
      obtain ⟨rfl, rfl, rfl⟩ := h2
      simp only [Bool.and_eq_true] at hfr
      obtain ⟨rfl, hfr'⟩ := hfr
      simp only [RelL] at hr
      obtain ⟨u, us, rfl, hu, hus⟩ := hr
      simp only [RelV] at hu
      subst hu
      have hlj := go_live hg
      have hnd' := List.nodup_cons.1 hnd
      simp only [OwnC]
      refine ⟨_, us, fun b => root (p.β j) = some b ∨ p.ρ j b, Blks p ks', rfl, fun b hb => ⟨⟨j, by simp, hb⟩, ?_⟩, fun b ⟨k, hk, hb⟩ => ⟨k, by simp [hk], hb⟩, ?_, cellsD_own hp r us h1 hfr' hnd'.2 hus⟩
      · rintro ⟨k, hk, hb'⟩
        have hne : j ≠ k := fun e => hnd'.1 (e ▸ hk)
        have hlk := cellsD_live r h1 k hk
        rcases hb with hb | hb <;> rcases hb' with hb' | hb'
        · exact hp.sep j k b hne hlj hlk hb hb'
        · exact (hp.priv k b hlk hb').1.2.2 j hlj hb
        · exact (hp.priv j b hlj hb).1.2.2 k hlk hb'
        · exact hp.apart j k b hne hlj hlk hb hb'
      · exact (hp.objs j _ hg).arr_split (fun b hb => (hp.priv j b hlj hb).1.2.2 j hlj)
    · cases h
  | .any :: r, _, _, _, _, h, _, _, _ => by simp only [cellsD] at h; cases h
  | .box _ _ :: r, _, _, _, _, h, _, _, _ => by simp only [cellsD] at h; cases h
  | .elt _ _ _ _ :: r, _, _, _, _, h, _, _, _ => by simp only [cellsD] at h; cases h
  | .agg _ :: r, _, _, _, _, h, _, _, _ => by simp only [cellsD] at h; cases h
  | .tup _ :: r, _, _, _, _, h, _, _, _ => by simp only [cellsD] at h; cases h
  | .gd _ _ :: r, _, _, _, _, h, _, _, _ => by simp only [cellsD] at h; cases h
  | .fn _ _ :: r, _, _, _, _, h, _, _, _ => by simp only [cellsD] at h; cases h

theorem cellsD_rel {F : Fr} {p : Pl} {M : List (Nat × AObj)} {w : World} (hp : Hp F p M w) (Im : Nat → Prop) (hIm : ∀ b, Imm F p M w b → Im b) : (l : List AV) → {ds : List D} → {ks : List Nat} → {fr : Bool} → (vs : List Value) → cellsD M l = some (ds, ks, fr) →
    (∀ k b, k ∈ ks → root (p.β k) = some b → Im b) → RelL p.β (Imm F p M w) w l vs → RelDs Im w ds vs
  | [], ds, ks, fr, vs, h, _, hr => by
    simp only [cellsD, Option.some.injEq, Prod.mk.injEq] at h
    obtain ⟨rfl, _, _⟩ := h
    simpa only [RelDs, RelL] using hr
  | .d y :: r, ds, ks, fr, vs, h, hks, hr => by
    simp only [cellsD, Option.map_eq_some_iff] at h
    obtain ⟨⟨ds', ks', fr'⟩, h1, h2⟩ := h
    simp only [Prod.mk.injEq] at h2
    obtain ⟨rfl, rfl, rfl⟩ := h2
    simp only [RelL] at hr
    obtain ⟨u, us, rfl, hu, hus⟩ := hr
    simp only [RelDs]
    exact ⟨u, us, rfl, RelD.keep (fun b hb => ⟨hIm b hb, rfl⟩) y u (by simpa only [RelV] using hu), cellsD_rel hp Im hIm r us h1 hks hus⟩
  | .own j :: r, ds, ks, fr, vs, h, hks, hr => by
    simp only [cellsD] at h
    split at h
    · rename_i fro e sz n f hg
      simp only [Option.map_eq_some_iff] at h
      obtain ⟨⟨ds', ks', fr'⟩, h1, h2⟩ := h
      simp only [Prod.mk.injEq] at h2
      obtain ⟨rfl, rfl, rfl⟩ := h2
      simp only [RelL] at hr
      obtain ⟨u, us, rfl, hu, hus⟩ := hr
      simp only [RelV] at hu
      subst hu
      simp only [RelDs]
      exact ⟨_, us, rfl, arr_view hp hg Im hIm (fun b hb => hks j b (by simp) hb), cellsD_rel hp Im hIm r us h1 (fun k b hk => hks k b (by simp [hk])) hus⟩
    · cases h
  | .any :: r, _, _, _, _, h, _, _ => by simp only [cellsD] at h; cases h
  | .box _ _ :: r, _, _, _, _, h, _, _ => by simp only [cellsD] at h; cases h
  | .elt _ _ _ _ :: r, _, _, _, _, h, _, _ => by simp only [cellsD] at h; cases h
  | .agg _ :: r, _, _, _, _, h, _, _ => by simp only [cellsD] at h; cases h
  | .tup _ :: r, _, _, _, _, h, _, _ => by simp only [cellsD] at h; cases h
  | .gd _ _ :: r, _, _, _, _, h, _, _ => by simp only [cellsD] at h; cases h
  | .fn _ _ :: r, _, _, _, _, h, _, _ => by simp only [cellsD] at h; cases h

/-- Owned cells, each with blocks of its own. -/
theorem OwnC.split {w : World} : (l : List D) → (S : Nat → Prop) → (vs : List Value) → OwnC w l S vs →
    vs.length = l.length ∧ ∃ T : Nat → Nat → Prop, (∀ j b, T j b → S b) ∧ (∀ j j' b, j ≠ j' → T j b → ¬ T j' b) ∧ ∀ (j : Nat) (x : D) (u : Value), l[j]? = some x → vs[j]? = some u → OwnD w x (T j) u
  | [], S, vs, h => by
    simp only [OwnC] at h
    subst h
    exact ⟨rfl, fun _ _ => False, fun j b h => h.elim, fun j j' b _ h => h.elim, fun j x u h => by simp at h⟩
  | x :: r, S, vs, h => by
    simp only [OwnC] at h
    obtain ⟨u, us, S1, S2, rfl, h2, h3, h4, h5⟩ := h
    obtain ⟨hl, T, t1, t2, t3⟩ := OwnC.split r S2 us h5
    refine ⟨by simp [hl], fun j => match j with | 0 => S1 | j + 1 => T j, ?_, ?_, ?_⟩
    · intro j b hb
      cases j with
      | zero => exact (h2 b hb).1
      | succ j => exact h3 b (t1 j b hb)
    · intro j j' b hne hb hb'
      cases j with
      | zero =>
        cases j' with
        | zero => exact hne rfl
        | succ j' => exact (h2 b hb).2 (t1 j' b hb')
      | succ j =>
        cases j' with
        | zero => exact (h2 b hb').2 (t1 j b hb)
        | succ j' => exact t2 j j' b (fun e => hne (by rw [e])) hb hb'
    · intro j y v hy hv
      cases j with
      | zero => simp at hy hv; subst hy; subst hv; exact h4
      | succ j => simp at hy hv; exact t3 j y v hy hv

theorem OwnC.join {w : World} {T : Nat → Nat → Prop} (hd : ∀ j j' b, j ≠ j' → T j b → ¬ T j' b) : (l : List D) → (vs : List Value) → (o : Nat) → vs.length = l.length →
    (∀ (j : Nat) (x : D) (u : Value), l[j]? = some x → vs[j]? = some u → OwnD w x (T (o + j)) u) → OwnC w l (fun b => ∃ j, o ≤ j ∧ j < o + l.length ∧ T j b) vs
  | [], vs, o, hl, h => by
    simp only [OwnC]
    exact List.eq_nil_of_length_eq_zero (by simpa using hl)
  | x :: r, [], o, hl, h => by simp at hl
  | x :: r, u :: us, o, hl, h => by
    simp only [OwnC]
    refine ⟨u, us, T o, fun b => ∃ j, o + 1 ≤ j ∧ j < o + 1 + r.length ∧ T j b, rfl, fun b hb => ⟨⟨o, Nat.le_refl _, by simp, hb⟩, ?_⟩, ?_, by simpa using h 0 x u (by simp) (by simp), ?_⟩
    · rintro ⟨j, h1, h2, h3⟩
      exact hd o j b (by omega) hb h3
    · rintro b ⟨j, h1, h2, h3⟩
      exact ⟨j, by omega, by simp; omega, h3⟩
    · exact OwnC.join hd r us (o + 1) (by simpa using hl) (fun j y v hy hv => by
        have := h (j + 1) y v (by simpa using hy) (by simpa using hv)
        rwa [show o + (j + 1) = o + 1 + j by omega] at this)

end Go.Am

/- The abstract machine: what making and writing memory does to the state. -/
namespace Go.Am
open Go.RowKit

section
variable {F : Fr} {p : Pl} {env : List (Nat × AV)} {M : List (Nat × AObj)} {a : Act} {w : World}

theorem root_ptr (b o : Nat) : root (.pointer (some ⟨b, o, none⟩)) = some b := rfl

theorem St.newBox (h : St F p env M a w) (k : Nat) (e : TypeId) (l : List AV) (vs : List Value) (hl : RelL p.β (Imm F p M w) w l vs) :
    St F (p.upd k (.pointer (some ⟨w.heap.size, 0, none⟩)) (fun _ => False)) (killE k env) ((k, .cells e (AV.killL k l)) :: delM k M) a (w.alloc (.cells vs.toArray e)) := by
  refine h.new k _ _ _ (World.grownBy_alloc w _ none) (fun b hb => ?_) (fun b hb => hb.elim) (fun hk => ?_)
  · simp only [root, Option.some.injEq] at hb; subst hb; simp
  · simp only [RelO]
    refine ⟨w.heap.size, vs.toArray, rfl, heap_alloc_new w _, ?_⟩
    refine RelL.keep (Keep.trans (h.hp.del k).2 hk) _ (fun j hj => ?_) _ (RelL.kill k l vs hl)
    have hne : j ≠ k := by
      rintro rfl
      rw [AV.has_killL] at hj
      cases hj
    simp [Pl.upd, hne]

/-- blocks of objects that are forgotten -/
theorem blks_imm (hp : Hp F p M w) {ks : List Nat} (hlive : ∀ j, j ∈ ks → Live M j) (hg : ∀ j, j ∈ ks → j < gid) {b : Nat} (hb : Blks p ks b) (_ : True) :
    b < w.heap.size ∧ F.w0.heap.size ≤ b ∧ (∀ j, j ∉ ks → Live M j → root (p.β j) ≠ some b ∧ ¬ p.ρ j b) := by
  obtain ⟨k, hk, hb⟩ := hb
  have hl := hlive k hk
  rcases hb with hb | hb
  · obtain ⟨h1, h2⟩ := hp.own k b hl hb
    refine ⟨h1, ?_, fun j hj hlj => ⟨hp.sep k j b (fun e => hj (e ▸ hk)) hl hlj hb, fun hr => (hp.priv j b hlj hr).1.2.2 k hl hb⟩⟩
    rcases h2 with h2 | h2
    · have := hg k hk; omega
    · exact h2
  · obtain ⟨h1, h2⟩ := hp.priv k b hl hb
    exact ⟨h1.1, h2, fun j hj hlj => ⟨h1.2.2 j hlj, hp.apart k j b (fun e => hj (e ▸ hk)) hl hlj hb⟩⟩

theorem blks_imm_del (hp : Hp F p M w) {ks : List Nat} (hlive : ∀ j, j ∈ ks → Live M j) (hg : ∀ j, j ∈ ks → j < gid) {b : Nat} (hb : Blks p ks b) (_ : ∀ j b, j ∈ ks → p.ρ j b → True) :
    Imm F p (delMs ks M) w b := by
  obtain ⟨h1, h2, h3⟩ := blks_imm hp hlive hg hb trivial
  exact ⟨h1, .inr (.inr h2), fun j hj => (h3 j (live_delMs.1 hj).1 (live_delMs.1 hj).2).1⟩

/-- elements out of cells -/
def rowF (ds : List D) (sz : Nat) : Nat → List D := fun i => (ds.drop (i * sz)).take sz

theorem own_rows {S : Nat → Prop} {ds : List D} {vs : List Value} (h : OwnC w ds S vs) (sz : Nat) :
    ∃ T : Nat → Nat → Prop, (∀ i b, T i b → S b) ∧ (∀ i j b, i ≠ j → T i b → ¬ T j b) ∧ ∀ i, (i + 1) * sz ≤ ds.length → OwnC w (rowF ds sz i) (T i) ((vs.drop (i * sz)).take sz) := by
  obtain ⟨hl, T, t1, t2, t3⟩ := OwnC.split ds S vs h
  refine ⟨fun i b => ∃ j, i * sz ≤ j ∧ j < (i + 1) * sz ∧ T j b, fun i b ⟨j, _, _, hb⟩ => t1 j b hb, ?_, ?_⟩
  · rintro i i' b hne ⟨j, h1, h2, h3⟩ ⟨j', h1', h2', h3'⟩
    refine t2 j j' b ?_ h3 h3'
    rintro rfl
    rcases Nat.lt_or_gt_of_ne hne with hlt | hlt
    · have := Nat.mul_le_mul_right sz (show i + 1 ≤ i' from hlt); omega
    · have := Nat.mul_le_mul_right sz (show i' + 1 ≤ i from hlt); omega
  · intro i hi
    have hlen : (rowF ds sz i).length = sz := by simp only [rowF, List.length_take, List.length_drop]; rw [Nat.add_mul] at hi; omega
    have := OwnC.join t2 (rowF ds sz i) ((vs.drop (i * sz)).take sz) (i * sz) (by rw [hlen, List.length_take, List.length_drop, hl]; rw [Nat.add_mul] at hi; omega) (fun j x u hx hu => by
      simp only [rowF, List.getElem?_take, List.getElem?_drop] at hx hu
      split at hx
      · rename_i hj; rw [if_pos hj] at hu; exact t3 _ x u hx hu
      · cases hx)
    rw [hlen] at this
    have he : i * sz + sz = (i + 1) * sz := by rw [Nat.add_mul]; omega
    rw [he] at this
    exact this

theorem rel_rows {Im : Nat → Prop} : (sz : Nat) → (ds : List D) → (vs : List Value) → RelDs Im w ds vs → RelDs Im w (ds.take sz) (vs.take sz)
  | 0, _, _, _ => by simp [RelDs]
  | sz + 1, [], vs, h => by simp only [RelDs] at h; subst h; simp [RelDs]
  | sz + 1, x :: r, vs, h => by
    simp only [RelDs] at h
    obtain ⟨u, us, rfl, hu, hr⟩ := h
    simp only [List.take_succ_cons, RelDs]
    exact ⟨u, us.take sz, rfl, hu, rel_rows sz r us hr⟩
theorem rel_drop {Im : Nat → Prop} : (o : Nat) → (ds : List D) → (vs : List Value) → RelDs Im w ds vs → RelDs Im w (ds.drop o) (vs.drop o)
  | 0, _, _, h => by simpa using h
  | o + 1, [], vs, h => by simp only [RelDs] at h; subst h; simp [RelDs]
  | o + 1, x :: r, vs, h => by
    simp only [RelDs] at h
    obtain ⟨u, us, rfl, hu, hr⟩ := h
    simpa using rel_drop o r us hr

theorem RelDs.len {Im : Nat → Prop} : (l : List D) → (vs : List Value) → RelDs Im w l vs → vs.length = l.length
  | [], vs, r => by simp only [RelDs] at r; rw [r]; rfl
  | x :: l, vs, r => by
    simp only [RelDs] at r
    obtain ⟨u, us, rfl, _, hr⟩ := r
    simp [RelDs.len l us hr]

theorem killEs_snoc (k : Nat) : (ks : List Nat) → (e : List (Nat × AV)) → killEs (ks ++ [k]) e = killE k (killEs ks e)
  | [], _ => rfl
  | j :: r, e => by simp only [List.cons_append, killEs, killEs_snoc k r]

/-- A new slice, out of cells. -/
theorem St.newArr (h : St F p env M a w) (k : Nat) (e : TypeId) (sz n : Nat) (cs : List AV) (vs : List Value) (ds : List D) (ks : List Nat) (fr : Bool)
    (hcs : cellsD M cs = some (ds, ks, fr)) (hnd : ks.Nodup) (hg : ∀ j, j ∈ ks → j < gid) (hl : RelL p.β (Imm F p M w) w cs vs) (hlen : ds.length = n * sz) (hn : n ≤ nb) :
    ∃ r, St F (p.upd k (.slice (some ⟨w.heap.size, 0, none⟩) n n) r) (killE k (killEs ks env)) ((k, .arr fr e sz n (rowF ds sz)) :: delM k (delMs ks M)) a (w.alloc (.cells vs.toArray e)) := by
  have h' := h.dels ks
  have hlive := cellsD_live cs hcs
  have hkeep : Keep (Imm F p M w) (Imm F p (delMs ks M) w) w w := fun b hb => ⟨imm_delMs hb, rfl⟩
  have hlv := RelDs.len _ _ (cellsD_rel h.hp (fun _ => True) (fun _ _ => trivial) cs vs hcs (fun _ _ _ _ => trivial) hl)
  have hown : (w.alloc (.cells vs.toArray e)).ownsRow 0 e sz (.slice (some ⟨w.heap.size, 0, none⟩) n n) n vs := by
    have := World.ownsRow_lit (w := w) (base := 0) (e := e) (size := sz) vs.toArray n (Nat.zero_le _) (by simp only [nb] at hn; simp only [maxLen]; omega) (by simp; omega)
    simpa using this
  cases fr with
  | true =>
    refine ⟨Blks p ks, h'.new k _ _ _ (World.grownBy_alloc w _ none) (fun b hb => ?_) (fun b hb => ?_) (fun hk => ?_)⟩
    · simp only [root, Option.some.injEq] at hb; subst hb; simp
    · have h1 := blks_imm h.hp hlive hg hb trivial
      have h2 := blks_imm_del h.hp hlive hg hb (fun _ _ _ _ => trivial)
      exact ⟨⟨h2.1, h2.2.1, fun j hj => h2.2.2 j (live_delM.1 hj).2⟩, h1.2.1, fun j hj hlj => (h1.2.2 j (live_delMs.1 hlj).1 (live_delMs.1 hlj).2).2⟩
    · have ho := cellsD_own h.hp cs vs hcs rfl hnd hl
      have ho' : OwnC (w.alloc (.cells vs.toArray e)) ds (Blks p ks) vs := OwnC.keep ds _ (fun b hb => Below.heap_alloc w _ b (blks_imm h.hp hlive hg hb trivial).1) vs ho
      obtain ⟨T, t1, t2, t3⟩ := own_rows ho' sz
      simp only [RelO]
      exact ⟨vs, T, hown, hn, t1, t2, fun i hi => t3 i (by rw [hlen]; exact Nat.mul_le_mul_right sz hi)⟩
  | false =>
    refine ⟨fun _ => False, h'.new k _ _ _ (World.grownBy_alloc w _ none) (fun b hb => ?_) (fun b hb => hb.elim) (fun hk => ?_)⟩
    · simp only [root, Option.some.injEq] at hb; subst hb; simp
    · have hk2 : Keep (Imm F p (delMs ks M) w) (Imm F (p.upd k (.slice (some ⟨w.heap.size, 0, none⟩) n n) fun _ => False) ((k, .arr false e sz n (rowF ds sz)) :: delM k (delMs ks M)) (w.alloc (.cells vs.toArray e))) w (w.alloc (.cells vs.toArray e)) :=
        Keep.trans (h'.hp.del k).2 hk
      have hr := cellsD_rel h.hp (Imm F p (delMs ks M) w) (fun b hb => imm_delMs hb) cs vs hcs (fun j b hj hb => ?_) hl
      · simp only [RelO]
        exact ⟨vs, hown, hn, fun i hi => rel_rows sz _ _ (rel_drop (i * sz) _ _ (RelDs.keep hk2 _ _ hr))⟩
      · obtain ⟨h1, h2⟩ := h.hp.own j b (hlive j hj) hb
        refine ⟨h1, ?_, fun j' hj' => h.hp.sep j j' b (fun e => (live_delMs.1 hj').1 (e ▸ hj)) (hlive j hj) (live_delMs.1 hj').2 hb⟩
        rcases h2 with h2 | h2
        · exact .inr (.inl h2.2)
        · exact .inr (.inr h2)

/-- A new slice of zeros. -/
theorem St.newMade (h : St F p env M a w) (k : Nat) (e : TypeId) (n : Nat) (z : Value) (w' : World) (v : Value) (hown : w'.ownsRow 0 e 1 v n (List.replicate n z)) (hg : w.grownBy w' none)
    (hroot : ∀ b, root v = some b → w.heap.size ≤ b ∧ b < w'.heap.size) (hn : n ≤ nb) :
    St F (p.upd k v fun _ => False) (killE k env) ((k, .arr true e 1 n (fun _ => [valD z])) :: delM k M) a w' := by
  refine h.new k _ _ _ hg hroot (fun b hb => hb.elim) (fun hk => ?_)
  simp only [RelO]
  refine ⟨List.replicate n z, fun _ _ => False, hown, hn, fun i b hb => hb.elim, fun i j b _ hb => hb.elim, fun i hi => ?_⟩
  have : ((List.replicate n z).drop (i * 1)).take 1 = [z] := by
    rw [Nat.mul_one, List.drop_replicate, List.take_replicate, Nat.min_eq_left (by omega)]; rfl
  rw [this]
  simp only [OwnC]
  exact ⟨z, [], fun _ => False, fun _ => False, rfl, fun b hb => hb.elim, fun b hb => hb.elim, valD_own _ _ _, rfl⟩

/-! ### an object is written -/

def setM (k : Nat) (o : AObj) : List (Nat × AObj) → List (Nat × AObj)
  | [] => []
  | (j, x) :: r => if j = k then (k, o) :: r else (j, x) :: setM k o r

theorem go_setM_ne {k j : Nat} (o : AObj) (h : j ≠ k) : ∀ M : List (Nat × AObj), go (setM k o M) j = go M j
  | [] => rfl
  | (i, x) :: r => by
    simp only [setM]
    by_cases e : i = k
    · subst e
      rw [if_pos rfl]
      simp only [go, if_neg (Ne.symm h)]
    · rw [if_neg e]
      simp only [go]
      split
      · rfl
      · exact go_setM_ne o h r
theorem go_setM_self {k : Nat} (o : AObj) : ∀ M : List (Nat × AObj), Live M k → go (setM k o M) k = some o
  | [], h => by unfold Live at h; simp [go] at h
  | (i, x) :: r, h => by
    simp only [setM]
    by_cases e : i = k
    · subst e
      rw [if_pos rfl]
      simp [go]
    · rw [if_neg e]
      simp only [go, if_neg e]
      refine go_setM_self o r ?_
      unfold Live at h ⊢
      simpa only [go, if_neg e] using h

/-- The refs to k forgotten, k itself kept. -/
def killM (k : Nat) : List (Nat × AObj) → List (Nat × AObj)
  | [] => []
  | (j, o) :: r => (j, o.kill k) :: killM k r

theorem go_killM (k j : Nat) : ∀ M : List (Nat × AObj), go (killM k M) j = (go M j).map (AObj.kill k)
  | [] => rfl
  | (i, o) :: r => by
    simp only [killM, go]
    split
    · rfl
    · exact go_killM k j r

theorem live_killM {k j : Nat} {M : List (Nat × AObj)} : Live (killM k M) j ↔ Live M j := by unfold Live; rw [go_killM]; simp

theorem St.kill (h : St F p env M a w) (k : Nat) : St F p (killE k env) (killM k M) a w := by
  have hk : Keep (Imm F p M w) (Imm F p (killM k M) w) w w := fun b hb => ⟨⟨hb.1, hb.2.1, fun j hj => hb.2.2 j (live_killM.1 hj)⟩, rfl⟩
  refine ⟨h.defers, h.nt, fun t => ?_, ⟨fun j o hj => ?_, fun j j' b hne hj hj' => h.hp.sep j j' b hne (live_killM.1 hj) (live_killM.1 hj'), fun j b hj => h.hp.own j b (live_killM.1 hj),
    fun j b hj hb => ⟨(hk b (h.hp.priv j b (live_killM.1 hj) hb).1).1, (h.hp.priv j b (live_killM.1 hj) hb).2⟩, fun j j' b hne hj hj' => h.hp.apart j j' b hne (live_killM.1 hj) (live_killM.1 hj'),
    h.hp.os, h.hp.tape, h.hp.output, h.hp.size, h.hp.old⟩⟩
  · rw [gt_killE]
    exact RelV.kill k _ _ (RelV.keep hk _ (fun _ _ => rfl) _ (h.slots t))
  · rw [go_killM] at hj
    cases hg : go M j with
    | none => rw [hg] at hj; cases hj
    | some o' =>
      rw [hg] at hj
      simp only [Option.map_some, Option.some.injEq] at hj
      subst hj
      have hl := go_live hg
      exact RelO.kill k o' _ (RelO.keep hk (fun b hb => (h.hp.priv j b hl hb).1) o' (fun _ _ => rfl) _ (fun b _ => rfl) (h.hp.objs j o' hg))

end
end Go.Am

/- The abstract machine: append and stores. -/
namespace Go.Am
open Go.RowKit

/-- rows, then more rows, then the zero row -/
def appF (z : List D) (n : Nat) (f : Nat → List D) (m : Nat) (g : Nat → List D) : Nat → List D :=
  fun i => if i < n then f i else if i < n + m then g (i - n) else z

theorem rows_left {xs ys : List Value} {n sz i : Nat} (hx : xs.length = n * sz) (hi : i < n) : ((xs ++ ys).drop (i * sz)).take sz = (xs.drop (i * sz)).take sz := by
  have h : i * sz + sz ≤ n * sz := by have := Nat.mul_le_mul_right sz (show i + 1 ≤ n from hi); rw [Nat.add_mul] at this; omega
  rw [List.drop_append_of_le_length (by omega), List.take_append_of_le_length (by rw [List.length_drop]; omega)]
theorem rows_right {xs ys : List Value} {n sz i : Nat} (hx : xs.length = n * sz) (hi : n ≤ i) : ((xs ++ ys).drop (i * sz)).take sz = (ys.drop ((i - n) * sz)).take sz := by
  have h : n * sz ≤ i * sz := Nat.mul_le_mul_right sz hi
  rw [List.drop_append, List.drop_of_length_le (by omega), List.nil_append, hx, Nat.sub_mul]

/-- What may be said of the rows that are appended. -/
def Rows' (F : Fr) (p : Pl) (M : List (Nat × AObj)) (w : World) (frx : Bool) (sz m : Nat) (g : Nat → List D) (news : List Value) : Prop :=
  match frx with
  | true => ∃ S : Nat → Prop, ∃ T : Nat → Nat → Prop, (∀ i b, T i b → S b) ∧ (∀ i j b, i ≠ j → T i b → ¬ T j b) ∧ (∀ i, i < m → OwnC w (g i) (T i) ((news.drop (i * sz)).take sz)) ∧
      ∀ b, S b → Imm F p M w b ∧ F.w0.heap.size ≤ b ∧ ∀ j, Live M j → ¬ p.ρ j b
  | false => ∀ i, i < m → RelDs (Imm F p M w) w (g i) ((news.drop (i * sz)).take sz)

section
variable {F : Fr} {p : Pl} {env : List (Nat × AV)} {M : List (Nat × AObj)} {a : Act} {w : World} {P : Program}

theorem Rows'.rel {frx : Bool} {sz m : Nat} {g : Nat → List D} {news : List Value} (h : Rows' F p M w frx sz m g news) : ∀ i, i < m → RelDs (Imm F p M w) w (g i) ((news.drop (i * sz)).take sz) := by
  cases frx with
  | false => exact h
  | true =>
    obtain ⟨S, T, h1, h2, h3, h4⟩ := h
    exact fun i hi => OwnC.rels (g i) (T i) (fun b hb => (h4 b (h1 i b hb)).1) _ (h3 i hi)

theorem RelO.arr_rel {β : Nat → Value} {ρ Im : Nat → Prop} {fr : Bool} {e : TypeId} {sz n : Nat} {f : Nat → List D} {v : Value} (hρ : ∀ b, ρ b → Im b) (r : RelO β ρ Im w (.arr fr e sz n f) v) :
    ∃ xs, w.ownsRow 0 e sz v n xs ∧ n ≤ nb ∧ (∀ i, i < n → RelDs Im w (f i) ((xs.drop (i * sz)).take sz)) ∧
      (fr = true → ∃ T : Nat → Nat → Prop, (∀ i b, T i b → ρ b) ∧ (∀ i j b, i ≠ j → T i b → ¬ T j b) ∧ ∀ i, i < n → OwnC w (f i) (T i) ((xs.drop (i * sz)).take sz)) := by
  cases fr with
  | true =>
    simp only [RelO] at r
    obtain ⟨xs, T, h1, h2, h3, h4, h5⟩ := r
    exact ⟨xs, h1, h2, fun i hi => OwnC.rels _ _ (fun b hb => hρ b (h3 i b hb)) _ (h5 i hi), fun _ => ⟨T, h3, h4, h5⟩⟩
  | false =>
    simp only [RelO] at r
    obtain ⟨xs, h1, h2, h3⟩ := r
    exact ⟨xs, h1, h2, h3, fun h => by cases h⟩

theorem St.append (h : St F p env M a w) (k : Nat) (fr frx : Bool) (e : TypeId) (sz n m : Nat) (f g : Nat → List D) (z : List D) (hk : go M k = some (.arr fr e sz n f))
    (henv : ∀ t, (gt env t).has k = false) (hM : ∀ j o, j ≠ k → go M j = some o → o.has k = false)
    (t ty' : TypeId) (ht : (ty P t).ok = true) (he : (ty P t).el = some e) (heok : (ty P e).ok = true) (hsz : (ty P e).size = sz) (hz : ∃ zs, (ty P e).zero = some zs ∧ zs.length = sz)
    (src : Addr) (c : Nat) (news : List Value) (hl : news.length = m * sz) (hnews : ∀ (j : Nat) (u : Value), news[j]? = some u → w.cell? (src.add j) = some u) (h1 : ∀ u ∈ news, u.oneCell' = true)
    (hnb : n + m ≤ nb) (hbytes : (n + m) * (ty P e).bytes ≤ nb) (hr : Rows' F p M w frx sz m g news) :
    ∃ v' w' r, (Builtin.append_ #[t, t] ty' #[p.β k, .slice (some src) m c]).run P w = .ok v' w' ∧
      St F (p.upd k v' r) env (setM k (.arr (fr && frx) e sz (n + m) (appF z n f m g)) M) a w' := by
  obtain ⟨inf, u, hi, hu⟩ := ty_some ht
  obtain ⟨infe, ue, hie, hue⟩ := ty_some heok
  rw [ty_of hi hu] at he
  rw [ty_of hie hue] at hsz hz hbytes
  simp only [tyOf] at he hsz hz hbytes
  cases u <;> simp at he
  obtain rfl := he.symm
  obtain ⟨zs, hz1, hz2⟩ := hz
  cases hzv : infe.zero with
  | none => rw [hzv] at hz1; simp at hz1
  | some zv =>
    rw [hzv] at hz1
    simp only [Option.map_some, Option.some.injEq] at hz1
    have hzs : zv.cells.size = sz := by rw [← hz2, ← hz1]; simp
    have hlk : Live M k := go_live hk
    have hρi : ∀ b, p.ρ k b → Imm F p M w b := fun b hb => (h.hp.priv k b hlk hb).1
    obtain ⟨xs, hown, hn, hrel, hT⟩ := (h.hp.objs k _ hk).arr_rel hρi
    have hxl : xs.length = n * sz := hown.1
    obtain ⟨v', w', hrun, hown', hgrow, hroot⟩ := run_append_own' (P := P) w t ty' _ infe zv sz infe.bytes hu hie hzv hsz rfl hzs (p.β k) n xs hown src m c news hl hnews h1
      (by simp only [nb] at hnb; simp only [maxLen]; omega) (by simpa only [nb] using hbytes)
    have hrow : ∀ b, root (p.β k) = some b → Live M k ∧ root (p.β k) = some b := fun b hb => ⟨hlk, hb⟩
    have hro : ∀ b, root v' = some b → w.heap.size ≤ b ∨ (Live M k ∧ root (p.β k) = some b) := fun b hb => (hroot b hb).1.elim (fun h => .inr ⟨hlk, h⟩) .inl
    by_cases hfr : (fr && frx) = true
    · rw [hfr]
      simp only [Bool.and_eq_true] at hfr
      obtain ⟨rfl, rfl⟩ := hfr
      obtain ⟨T, q3, q4, q5⟩ := hT rfl
      obtain ⟨S, T2, r1, r2, r3, r4⟩ := hr
      refine ⟨v', w', fun b => p.ρ k b ∨ S b, hrun, h.put k v' _ _ hgrow hrow (fun j hj => go_setM_ne _ hj M) (.inl ⟨henv, hM⟩) hro (fun b hb => (hroot b hb).2) (fun b hb => ?_) (fun hkeep o ho => ?_)⟩
      · rcases hb with hb | hb
        · have := h.hp.priv k b hlk hb
          exact ⟨this.1, this.2, fun j hj hl hb' => h.hp.apart k j b (Ne.symm hj) hlk hl hb hb'⟩
        · exact ⟨(r4 b hb).1, (r4 b hb).2.1, fun j _ hl => (r4 b hb).2.2 j hl⟩
      · rw [go_setM_self _ M hlk] at ho
        cases ho
        simp only [RelO]
        refine ⟨xs ++ news, fun i b => (i < n ∧ T i b) ∨ (n ≤ i ∧ T2 (i - n) b), hown', hnb, ?_, ?_, ?_⟩
        · rintro i b (⟨_, hb⟩ | ⟨_, hb⟩)
          · exact .inl (q3 i b hb)
          · exact .inr (r1 _ b hb)
        · rintro i j b hne (⟨hi, hb⟩ | ⟨hi, hb⟩) (⟨hj, hb'⟩ | ⟨hj, hb'⟩)
          · exact q4 i j b hne hb hb'
          · exact (r4 b (r1 _ b hb')).2.2 k hlk (q3 i b hb)
          · exact (r4 b (r1 _ b hb)).2.2 k hlk (q3 j b hb')
          · exact r2 (i - n) (j - n) b (by omega) hb hb'
        · intro i hi
          by_cases hin : i < n
          · rw [rows_left hxl hin]
            simp only [appF, if_pos hin]
            exact OwnC.wide _ (T i) _ (fun b hb => .inl ⟨hin, hb⟩) _ (OwnC.keep _ _ (fun b hb => (hkeep b (hρi b (q3 i b hb))).2) _ (q5 i hin))
          · rw [rows_right hxl (by omega)]
            simp only [appF, if_neg hin, if_pos hi]
            exact OwnC.wide _ (T2 (i - n)) _ (fun b hb => .inr ⟨by omega, hb⟩) _ (OwnC.keep _ _ (fun b hb => (hkeep b (r4 b (r1 _ b hb)).1).2) _ (r3 (i - n) (by omega)))
    · have hfr' : (fr && frx) = false := by simpa using hfr
      rw [hfr']
      refine ⟨v', w', fun _ => False, hrun, h.put k v' _ _ hgrow hrow (fun j hj => go_setM_ne _ hj M) (.inl ⟨henv, hM⟩) hro (fun b hb => (hroot b hb).2) (fun b hb => hb.elim) (fun hkeep o ho => ?_)⟩
      rw [go_setM_self _ M hlk] at ho
      cases ho
      simp only [RelO]
      refine ⟨xs ++ news, hown', hnb, fun i hi => ?_⟩
      by_cases hin : i < n
      · rw [rows_left hxl hin]
        simp only [appF, if_pos hin]
        exact RelDs.keep hkeep _ _ (hrel i hin)
      · rw [rows_right hxl (by omega)]
        simp only [appF, if_neg hin, if_pos hi]
        exact RelDs.keep hkeep _ _ (hr.rel (i - n) (by omega))

/-! ### sources of an append -/

def rowsOne (m : Nat) (g : Nat → List D) : Prop := ∀ i, i < m → ∀ x, x ∈ g i → x.one = true

theorem RelDs.one {Im : Nat → Prop} : (l : List D) → (vs : List Value) → RelDs Im w l vs → (∀ x, x ∈ l → x.one = true) → ∀ u, u ∈ vs → u.oneCell' = true
  | [], vs, h, _, u, hu => by simp only [RelDs] at h; subst h; cases hu
  | x :: l, vs, h, h1, u, hu => by
    simp only [RelDs] at h
    obtain ⟨v, us, rfl, hv, hr⟩ := h
    rcases List.mem_cons.1 hu with rfl | hu
    · exact RelD.one (h1 x (by simp)) hv
    · exact RelDs.one l us hr (fun y hy => h1 y (by simp [hy])) u hu

theorem rows_one {Im : Nat → Prop} {sz m : Nat} {g : Nat → List D} {news : List Value} (hl : news.length = m * sz) (hr : ∀ i, i < m → RelDs Im w (g i) ((news.drop (i * sz)).take sz)) (h1 : rowsOne m g) : ∀ u ∈ news, u.oneCell' = true := by
  intro u hu
  obtain ⟨j, hj, rfl⟩ := List.getElem_of_mem hu
  rcases Nat.eq_zero_or_pos sz with rfl | hsz
  · simp at hl; subst hl; simp at hj
  · have hi : j / sz < m := by rw [Nat.div_lt_iff_lt_mul hsz]; omega
    refine RelDs.one _ _ (hr (j / sz) hi) (h1 _ hi) _ ?_
    have hd : j / sz * sz + j % sz = j := by rw [Nat.mul_comm]; exact Nat.div_add_mod j sz
    have hm := Nat.mod_lt j hsz
    refine List.mem_iff_getElem?.2 ⟨j % sz, ?_⟩
    rw [List.getElem?_take, if_pos hm, List.getElem?_drop, hd, List.getElem?_eq_getElem hj]

/-- what a slice that is read holds, as a list -/
theorem read_rows {Im : Nat → Prop} (b o sz : Nat) (g : Nat → List D) : ∀ m, (∀ i, i < m → (g i).length = sz) → (∀ i, i < m → RelC Im w (g i) b (o + i * sz)) →
    ∃ news : List Value, news.length = m * sz ∧ (∀ (j : Nat) (u : Value), news[j]? = some u → w.cell? ⟨b, o + j, none⟩ = some u) ∧ ∀ i, i < m → RelDs Im w (g i) ((news.drop (i * sz)).take sz)
  | 0, _, _ => ⟨[], by simp, by simp, fun i hi => by omega⟩
  | m + 1, hl, hr => by
    obtain ⟨news, h1, h2, h3⟩ := read_rows b o sz g m (fun i hi => hl i (by omega)) (fun i hi => hr i (by omega))
    have key : ∀ (l : List D) (q : Nat), RelC Im w l b q → ∃ vs : List Value, vs.length = l.length ∧ (∀ (j : Nat) (u : Value), vs[j]? = some u → w.cell? ⟨b, q + j, none⟩ = some u) ∧ RelDs Im w l vs := by
      intro l
      induction l with
      | nil => intro q _; exact ⟨[], rfl, by simp, by simp only [RelDs]⟩
      | cons x l ih =>
        intro q r
        simp only [RelC] at r
        obtain ⟨⟨u, hu, hx⟩, hr⟩ := r
        obtain ⟨vs, e1, e2, e3⟩ := ih (q + 1) hr
        refine ⟨u :: vs, by simp [e1], fun j v hj => ?_, by simp only [RelDs]; exact ⟨u, vs, rfl, hx, e3⟩⟩
        cases j with
        | zero => simp at hj; subst hj; simpa using hu
        | succ j => simp at hj; have := e2 j v hj; rwa [show q + 1 + j = q + (j + 1) by omega] at this
    obtain ⟨vs, e1, e2, e3⟩ := key (g m) _ (hr m (by omega))
    have hvl : vs.length = sz := by rw [e1]; exact hl m (by omega)
    refine ⟨news ++ vs, by rw [List.length_append, h1, hvl, Nat.add_mul]; omega, fun j u hj => ?_, fun i hi => ?_⟩
    · by_cases hjn : j < news.length
      · rw [List.getElem?_append_left hjn] at hj; exact h2 j u hj
      · rw [List.getElem?_append_right (by omega)] at hj
        have := e2 _ u hj
        rwa [show o + m * sz + (j - news.length) = o + j by omega] at this
    · by_cases him : i < m
      · rw [rows_left h1 him]; exact h3 i him
      · obtain rfl : i = m := by omega
        rw [rows_right h1 (Nat.le_refl _), Nat.sub_self, Nat.zero_mul, List.drop_zero, List.take_of_length_le (by omega)]
        exact e3

/-- all rows flat: decided classically -/
noncomputable def flatRows (m : Nat) (g : Nat → List D) : Bool := by
  classical exact decide (∀ i, i < m → ∀ x, x ∈ g i → x.flat = true)

theorem flatRows_iff {m : Nat} {g : Nat → List D} : flatRows m g = true ↔ ∀ i, i < m → ∀ x, x ∈ g i → x.flat = true := by
  unfold flatRows; simp

theorem flat_ownC {Im : Nat → Prop} {w' : World} : (l : List D) → (vs : List Value) → (∀ x, x ∈ l → x.flat = true) → RelDs Im w l vs → OwnC w' l (fun _ => False) vs
  | [], vs, _, h => by simpa only [RelDs, OwnC] using h
  | x :: l, vs, hf, h => by
    simp only [RelDs] at h
    obtain ⟨u, us, rfl, hu, hr⟩ := h
    simp only [OwnC]
    exact ⟨u, us, fun _ => False, fun _ => False, rfl, fun b hb => hb.elim, fun b hb => hb.elim, flat_own (hf x (by simp)) hu _, flat_ownC l us (fun y hy => hf y (by simp [hy])) hr⟩

theorem rows_of_rel {sz m : Nat} {g : Nat → List D} {news : List Value} (h : ∀ i, i < m → RelDs (Imm F p M w) w (g i) ((news.drop (i * sz)).take sz)) : Rows' F p M w (flatRows m g) sz m g news := by
  cases hf : flatRows m g with
  | false => exact h
  | true =>
    have hf' := flatRows_iff.1 hf
    exact ⟨fun _ => False, fun _ _ => False, fun _ _ h => h, fun _ _ _ _ h => h.elim, fun i hi => flat_ownC _ _ (hf' i hi) (h i hi), fun b hb => hb.elim⟩

end
end Go.Am
