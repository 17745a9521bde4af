/- What the functions that FnTensors reaches give: for each its contract, what it asks, and the proof. No condition. -/
import Derived.Test.YtdcandojebpfnaaTab
namespace Go.Bm
open Go.Proofs
set_option maxRecDepth 100000
set_option maxHeartbeats 1000000
set_option linter.unusedVariables false
set_option linter.unusedSimpArgs false
noncomputable section
def SrcR (s : spec_l01SourceD) : Prop := allP (T.oks spec_l01SourceT s) /\ 0 <= s.2.1
theorem inKu {x : Int} : inK .u64 x ↔ 0 <= x /\ x <= 18446744073709551615 := by
 unfold inK; exact Iff.rfl
theorem inK8 {x : Int} : inK .u8 x ↔ 0 <= x /\ x <= 255 := by
 unfold inK; exact Iff.rfl
theorem and_le (a : Int) : 0 <= andR .u64 a 16777215 /\ andR .u64 a 16777215 <= 16777215 := by
 have h : ((BitVec.ofInt IntKind.u64.bits a &&& BitVec.ofInt IntKind.u64.bits 16777215).toNat : Nat) <= 16777215 := by
  rw [BitVec.toNat_and]; exact Nat.le_trans Nat.and_le_right (by decide)
 unfold andR
 rw [wrap_in (by rw [inKu]; omega)]
 omega
theorem shr_in {a : Int} (h : inK .u64 a) : inK .u64 (shrR .u64 a 33) := by
 rw [inKu] at h ⊢
 have e : shrR .u64 a 33 = a / 8589934592 := by
  show a.fdiv 8589934592 = _
  rw [Int.fdiv_eq_ediv_of_nonneg _ (by decide)]
 rw [e]; omega
def w1_spec_l01Next : Wt := ⟨(.pt (.fz spec_l01SourceT)), [(.int .i64)], [false], fun x y => [0 <= x.2.1], fun x _ => x, [(false, (.fz (.int .i64)))], fun _ _ => dfR _⟩
def Q_spec_l01Next (s : spec_l01SourceD) (n : Int) (z : spec_l01SourceD) (r0 : Int) : Prop := 0 <= z.2.1 /\ 0 <= r0 /\ (1 <= n -> r0 < n) /\ (n < 1 -> r0 = 0)
def an_spec_l01Next : Ann := (.s .n (.s .n (.s .n (.s .n (.s (.s .n (.j [(0, (.ad 1000000 [.de])), (5, (.d (.int .i64)))] [(1000000, (.pt (.fz (.p (.sl (.int .u8)) (.p (.int .i64) (.int .u64))))))] [1] .n)) .n)))))
def W_spec_l01Next (s : spec_l01SourceD) (n : Int) (K : spec_l01SourceD -> (Int × Unit) -> Prop) : Prop := (cnd (decide (n < 1)) (K s (0, ())) (((0 : Int) <= 33) /\ ((inK .u64 (shrR .u64 (IntKind.wrap .u64 ((IntKind.wrap .u64 (s.2.2 * 6364136223846793005)) + 1442695040888963407)) 33)) /\ (joinW (S := ((Unit × (Int × Unit)) × (((List Int) × (Int × Int)) × Unit))) (fun s1 => ((inK .i64 s1.1.2.1) -> ((T.ok (.sl (.int .u8)) s1.2.1.1) -> ((inK .i64 s1.2.1.2.1) -> ((inK .u64 s1.2.1.2.2) -> ((n ≠ 0) /\ ((inK .i64 (Int.tmod s1.1.2.1 n)) /\ (K s1.2.1 ((Int.tmod s1.1.2.1 n), ()))))))))) (fun k => (cnd (decide (s.2.1 < ((s.1.length : Nat) : Int))) ((0 <= s.2.1) /\ ((s.2.1 < ((s.1.length : Nat) : Int)) /\ ((inK .i64 ((IntKind.wrap .i64 (andR .u64 (shrR .u64 (IntKind.wrap .u64 ((IntKind.wrap .u64 (s.2.2 * 6364136223846793005)) + 1442695040888963407)) 33) 16777215)) + (IntKind.wrap .i64 (List.getD s.1 s.2.1.toNat 0)))) /\ ((inK .i64 (s.2.1 + 1)) /\ (k (((), (((IntKind.wrap .i64 (andR .u64 (shrR .u64 (IntKind.wrap .u64 ((IntKind.wrap .u64 (s.2.2 * 6364136223846793005)) + 1442695040888963407)) 33) 16777215)) + (IntKind.wrap .i64 (List.getD s.1 s.2.1.toNat 0))), ())), ((s.1, ((s.2.1 + 1), (IntKind.wrap .u64 ((IntKind.wrap .u64 (s.2.2 * 6364136223846793005)) + 1442695040888963407)))), ()))))))) (k (((), ((IntKind.wrap .i64 (andR .u64 (shrR .u64 (IntKind.wrap .u64 ((IntKind.wrap .u64 (s.2.2 * 6364136223846793005)) + 1442695040888963407)) 33) 16777215)), ())), ((s.1, (s.2.1, (IntKind.wrap .u64 ((IntKind.wrap .u64 (s.2.2 * 6364136223846793005)) + 1442695040888963407)))), ())))))))))
theorem w_spec_l01Next (x : w1_spec_l01Next.o.strip.den) (y : denL w1_spec_l01Next.as) (K : spec_l01SourceD -> (Int × Unit) -> Prop) : evFw tab (lkp []) (cutL [(5, 9), (6, 12)]) Try.f79 (bodyOf Try.f79) an_spec_l01Next w1_spec_l01Next x y K = W_spec_l01Next x y.1 K := by kernel_rfl
theorem k_spec_l01Next : okC Try.f79.ntmps (cutL [(5, 9), (6, 12)]) (bodyOf Try.f79) = true := by kernel_rfl
theorem m_spec_l01Next (s : spec_l01SourceD) (n : Int) (hok : allP (w1_spec_l01Next.o.strip.oks s)) (hok2 : allP (okL w1_spec_l01Next.as (n, ()))) (hpre : allP (w1_spec_l01Next.pre s (n, ()))) : W_spec_l01Next s n (fun z r => Q_spec_l01Next s n z r.1) := by
 simp only [w1_spec_l01Next, O.strip, okL, T.oks, T.ok, ap, allP, true_and, and_true, implies_true] at hok hok2 hpre
 try dsimp only [T.den] at hok
 try dsimp only [T.den] at hok2
 try dsimp only [T.den] at hpre
 unfold W_spec_l01Next Q_spec_l01Next
 obtain ⟨⟨hc1, hc2⟩, ha, hh⟩ := hok
 rw [nb_eq] at hc1
 generalize hx : IntKind.wrap .u64 (IntKind.wrap .u64 (s.2.2 * 6364136223846793005) + 1442695040888963407) = x
 have hxk : inK .u64 x := by rw [← hx]; exact wrap_inK _ _
 have hm := and_le (shrR .u64 x 33)
 generalize andR .u64 (shrR .u64 x 33) 16777215 = y at hm
 refine cnd_d (fun hn => ⟨hpre, Int.le_refl _, fun h => by omega, fun _ => rfl⟩) (fun hn => ⟨by omega, shr_in hxk, ?_⟩)
 rw [wrap_in (show inK .i64 y by rw [inK64]; (try dsimp only); omega)]
 refine join_of (fun s1 => 0 <= s1.2.1.2.1 /\ 0 <= s1.1.2.1) (fun s1 hs _ _ _ _ => ?_) (fun k hk => cnd_d (fun hc => ?_) (fun hc => hk _ ⟨hpre, hm.1⟩))
 ·have h1 := Int.tmod_nonneg n hs.2
  have h2 := Int.tmod_lt_of_pos s1.1.2.1 (show 0 < n by omega)
  have hn2 := inK64.1 hok2
  exact ⟨by omega, by rw [inK64]; (try dsimp only); omega, hs.1, h1, fun _ => h2, fun h => by omega⟩
 ·have hb := inK8.1 (hc2 _ (getD_mem s.1 0 hpre hc))
  rw [wrap_in (show inK .i64 (s.1.getD s.2.1.toNat 0) by rw [inK64]; (try dsimp only); omega)]
  exact ⟨hpre, hc, by rw [inK64]; (try dsimp only); omega, by rw [inK64]; (try dsimp only); omega, hk _ ⟨by dsimp only; omega, by dsimp only; omega⟩⟩
theorem e_spec_l01Next (s : spec_l01SourceD) (n : Int) : ∃ q : spec_l01SourceD × (Int × Unit), allP (w1_spec_l01Next.o.strip.oks s) -> allP (okL w1_spec_l01Next.as (n, ())) -> allP (w1_spec_l01Next.pre s (n, ())) -> W_spec_l01Next s n (fun z r => z = q.1 /\ r = q.2) /\ allP (w1_spec_l01Next.o.strip.oks q.1) /\ allP (okR w1_spec_l01Next.rt q.2) /\ Q_spec_l01Next s n q.1 q.2.1 :=
 pick_wy (f := 79) (Φ := lkp []) good_nil tab_ok (by kernel_rfl) (fn := Try.f79) (c := bodyOf Try.f79) (by kernel_rfl) (by kernel_rfl) (by kernel_rfl) w1_spec_l01Next an_spec_l01Next (cutL [(5, 9), (6, 12)]) (by kernel_rfl) (by kernel_rfl) k_spec_l01Next (by decide) (by kernel_rfl) (by kernel_rfl) spec_l01SourceT rfl (by kernel_rfl) (fun x y K => W_spec_l01Next x y.1 K) w_spec_l01Next (fun x y z r => Q_spec_l01Next x y.1 z r.1) (fun x y h1 h2 h3 => m_spec_l01Next x y.1 h1 h2 h3) s (n, ())
def spec_l01Next_zR (s : spec_l01SourceD) (n : Int) : spec_l01SourceD := (e_spec_l01Next s n).choose.1
def spec_l01Next_r0R (s : spec_l01SourceD) (n : Int) : Int := (e_spec_l01Next s n).choose.2.1
theorem q_spec_l01Next (s : spec_l01SourceD) (n : Int) (hok : allP (w1_spec_l01Next.o.strip.oks s)) (hok2 : allP (okL w1_spec_l01Next.as (n, ()))) (hpre : allP (w1_spec_l01Next.pre s (n, ()))) : allP (w1_spec_l01Next.o.strip.oks (spec_l01Next_zR s n)) /\ allP (okR w1_spec_l01Next.rt (spec_l01Next_r0R s n, ())) /\ Q_spec_l01Next s n (spec_l01Next_zR s n) (spec_l01Next_r0R s n) := ((e_spec_l01Next s n).choose_spec hok hok2 hpre).2
def w0_spec_l01Next : Wt := ⟨(.pt (.fz spec_l01SourceT)), [(.int .i64)], [false], fun x y => [0 <= x.2.1], fun x y => (spec_l01Next_zR x y.1), [(false, (.fz (.int .i64)))], fun x y => ((spec_l01Next_r0R x y.1), ())⟩
def c_spec_l01Next : Ct := wtCt w0_spec_l01Next
theorem w2_spec_l01Next (x : w0_spec_l01Next.o.strip.den) (y : denL w0_spec_l01Next.as) (K : spec_l01SourceD -> (Int × Unit) -> Prop) : evFw tab (lkp []) (cutL [(5, 9), (6, 12)]) Try.f79 (bodyOf Try.f79) an_spec_l01Next w0_spec_l01Next x y K = W_spec_l01Next x y.1 K := by kernel_rfl
theorem ct_spec_l01Next : CtOk Try.prog 79 c_spec_l01Next :=
 wt_of (Φ := lkp []) good_nil tab_ok (by kernel_rfl) (fn := Try.f79) (c := bodyOf Try.f79) (by kernel_rfl) (by kernel_rfl) (by kernel_rfl) w0_spec_l01Next an_spec_l01Next (cutL [(5, 9), (6, 12)]) (by kernel_rfl) (by kernel_rfl) k_spec_l01Next (by decide) (by kernel_rfl) (fun x y h1 h2 h3 => (w2_spec_l01Next x y _).mpr ((e_spec_l01Next x y.1).choose_spec h1 h2 h3).1)
theorem next_p {s : spec_l01SourceD} {n : Int} (h : SrcR s) (hn : inK .i64 n) : SrcR (spec_l01Next_zR s n) /\ 0 <= spec_l01Next_r0R s n /\ (1 <= n -> spec_l01Next_r0R s n < n) /\ (n < 1 -> spec_l01Next_r0R s n = 0) := by
 obtain ⟨h1, h2, h3, h4⟩ := q_spec_l01Next s n h.1 ⟨hn, trivial⟩ ⟨h.2, trivial⟩
 exact ⟨⟨h1, h3⟩, h4⟩
def w1_laws_dice_below : Wt := ⟨(.pt (.fz spec_l01SourceT)), [(.int .i64)], [false], fun x y => [0 <= x.2.1], fun x _ => x, [(false, (.fz (.int .i64)))], fun _ _ => dfR _⟩
def Q_laws_dice_below (d : spec_l01SourceD) (n : Int) (z : spec_l01SourceD) (r0 : Int) : Prop := 0 <= z.2.1 /\ 0 <= r0 /\ (1 <= n -> r0 < n) /\ (n < 1 -> r0 = 0)
def an_laws_dice_below : Ann := (.s .n (.s .n (.s .n (.s .n (.s (.s .n (.j [(0, (.ad 1000000 [.de])), (5, (.d (.int .i64)))] [(1000000, (.pt (.fz (.p (.sl (.int .u8)) (.p (.int .i64) (.int .u64))))))] [1] .n)) .n)))))
def W_laws_dice_below (d : spec_l01SourceD) (n : Int) (K : spec_l01SourceD -> (Int × Unit) -> Prop) : Prop := (cnd (decide (n < 1)) (K d (0, ())) (((0 : Int) <= 33) /\ ((inK .u64 (shrR .u64 (IntKind.wrap .u64 ((IntKind.wrap .u64 (d.2.2 * 6364136223846793005)) + 1442695040888963407)) 33)) /\ (joinW (S := ((Unit × (Int × Unit)) × (((List Int) × (Int × Int)) × Unit))) (fun s => ((inK .i64 s.1.2.1) -> ((T.ok (.sl (.int .u8)) s.2.1.1) -> ((inK .i64 s.2.1.2.1) -> ((inK .u64 s.2.1.2.2) -> ((n ≠ 0) /\ ((inK .i64 (Int.tmod s.1.2.1 n)) /\ (K s.2.1 ((Int.tmod s.1.2.1 n), ()))))))))) (fun k => (cnd (decide (d.2.1 < ((d.1.length : Nat) : Int))) ((0 <= d.2.1) /\ ((d.2.1 < ((d.1.length : Nat) : Int)) /\ ((inK .i64 ((IntKind.wrap .i64 (andR .u64 (shrR .u64 (IntKind.wrap .u64 ((IntKind.wrap .u64 (d.2.2 * 6364136223846793005)) + 1442695040888963407)) 33) 16777215)) + (IntKind.wrap .i64 (List.getD d.1 d.2.1.toNat 0)))) /\ ((inK .i64 (d.2.1 + 1)) /\ (k (((), (((IntKind.wrap .i64 (andR .u64 (shrR .u64 (IntKind.wrap .u64 ((IntKind.wrap .u64 (d.2.2 * 6364136223846793005)) + 1442695040888963407)) 33) 16777215)) + (IntKind.wrap .i64 (List.getD d.1 d.2.1.toNat 0))), ())), ((d.1, ((d.2.1 + 1), (IntKind.wrap .u64 ((IntKind.wrap .u64 (d.2.2 * 6364136223846793005)) + 1442695040888963407)))), ()))))))) (k (((), ((IntKind.wrap .i64 (andR .u64 (shrR .u64 (IntKind.wrap .u64 ((IntKind.wrap .u64 (d.2.2 * 6364136223846793005)) + 1442695040888963407)) 33) 16777215)), ())), ((d.1, (d.2.1, (IntKind.wrap .u64 ((IntKind.wrap .u64 (d.2.2 * 6364136223846793005)) + 1442695040888963407)))), ())))))))))
theorem w_laws_dice_below (x : w1_laws_dice_below.o.strip.den) (y : denL w1_laws_dice_below.as) (K : spec_l01SourceD -> (Int × Unit) -> Prop) : evFw tab (lkp []) (cutL [(5, 9), (6, 12)]) Try.f13 (bodyOf Try.f13) an_laws_dice_below w1_laws_dice_below x y K = W_laws_dice_below x y.1 K := by kernel_rfl
theorem k_laws_dice_below : okC Try.f13.ntmps (cutL [(5, 9), (6, 12)]) (bodyOf Try.f13) = true := by kernel_rfl
theorem m_laws_dice_below (d : spec_l01SourceD) (n : Int) (hok : allP (w1_laws_dice_below.o.strip.oks d)) (hok2 : allP (okL w1_laws_dice_below.as (n, ()))) (hpre : allP (w1_laws_dice_below.pre d (n, ()))) : W_laws_dice_below d n (fun z r => Q_laws_dice_below d n z r.1) := by
 simp only [w1_laws_dice_below, O.strip, okL, T.oks, T.ok, ap, allP, true_and, and_true, implies_true] at hok hok2 hpre
 try dsimp only [T.den] at hok
 try dsimp only [T.den] at hok2
 try dsimp only [T.den] at hpre
 unfold W_laws_dice_below Q_laws_dice_below
 obtain ⟨⟨hc1, hc2⟩, ha, hh⟩ := hok
 rw [nb_eq] at hc1
 generalize hx : IntKind.wrap .u64 (IntKind.wrap .u64 (d.2.2 * 6364136223846793005) + 1442695040888963407) = x
 have hxk : inK .u64 x := by rw [← hx]; exact wrap_inK _ _
 have hm := and_le (shrR .u64 x 33)
 generalize andR .u64 (shrR .u64 x 33) 16777215 = y at hm
 refine cnd_d (fun hn => ⟨hpre, Int.le_refl _, fun h => by omega, fun _ => rfl⟩) (fun hn => ⟨by omega, shr_in hxk, ?_⟩)
 rw [wrap_in (show inK .i64 y by rw [inK64]; (try dsimp only); omega)]
 refine join_of (fun s1 => 0 <= s1.2.1.2.1 /\ 0 <= s1.1.2.1) (fun s1 hs _ _ _ _ => ?_) (fun k hk => cnd_d (fun hc => ?_) (fun hc => hk _ ⟨hpre, hm.1⟩))
 ·have h1 := Int.tmod_nonneg n hs.2
  have h2 := Int.tmod_lt_of_pos s1.1.2.1 (show 0 < n by omega)
  have hn2 := inK64.1 hok2
  exact ⟨by omega, by rw [inK64]; (try dsimp only); omega, hs.1, h1, fun _ => h2, fun h => by omega⟩
 ·have hb := inK8.1 (hc2 _ (getD_mem d.1 0 hpre hc))
  rw [wrap_in (show inK .i64 (d.1.getD d.2.1.toNat 0) by rw [inK64]; (try dsimp only); omega)]
  exact ⟨hpre, hc, by rw [inK64]; (try dsimp only); omega, by rw [inK64]; (try dsimp only); omega, hk _ ⟨by dsimp only; omega, by dsimp only; omega⟩⟩
theorem e_laws_dice_below (d : spec_l01SourceD) (n : Int) : ∃ q : spec_l01SourceD × (Int × Unit), allP (w1_laws_dice_below.o.strip.oks d) -> allP (okL w1_laws_dice_below.as (n, ())) -> allP (w1_laws_dice_below.pre d (n, ())) -> W_laws_dice_below d n (fun z r => z = q.1 /\ r = q.2) /\ allP (w1_laws_dice_below.o.strip.oks q.1) /\ allP (okR w1_laws_dice_below.rt q.2) /\ Q_laws_dice_below d n q.1 q.2.1 :=
 pick_wy (f := 13) (Φ := lkp []) good_nil tab_ok (by kernel_rfl) (fn := Try.f13) (c := bodyOf Try.f13) (by kernel_rfl) (by kernel_rfl) (by kernel_rfl) w1_laws_dice_below an_laws_dice_below (cutL [(5, 9), (6, 12)]) (by kernel_rfl) (by kernel_rfl) k_laws_dice_below (by decide) (by kernel_rfl) (by kernel_rfl) spec_l01SourceT rfl (by kernel_rfl) (fun x y K => W_laws_dice_below x y.1 K) w_laws_dice_below (fun x y z r => Q_laws_dice_below x y.1 z r.1) (fun x y h1 h2 h3 => m_laws_dice_below x y.1 h1 h2 h3) d (n, ())
def laws_dice_below_zR (d : spec_l01SourceD) (n : Int) : spec_l01SourceD := (e_laws_dice_below d n).choose.1
def laws_dice_below_r0R (d : spec_l01SourceD) (n : Int) : Int := (e_laws_dice_below d n).choose.2.1
theorem q_laws_dice_below (d : spec_l01SourceD) (n : Int) (hok : allP (w1_laws_dice_below.o.strip.oks d)) (hok2 : allP (okL w1_laws_dice_below.as (n, ()))) (hpre : allP (w1_laws_dice_below.pre d (n, ()))) : allP (w1_laws_dice_below.o.strip.oks (laws_dice_below_zR d n)) /\ allP (okR w1_laws_dice_below.rt (laws_dice_below_r0R d n, ())) /\ Q_laws_dice_below d n (laws_dice_below_zR d n) (laws_dice_below_r0R d n) := ((e_laws_dice_below d n).choose_spec hok hok2 hpre).2
def w0_laws_dice_below : Wt := ⟨(.pt (.fz spec_l01SourceT)), [(.int .i64)], [false], fun x y => [0 <= x.2.1], fun x y => (laws_dice_below_zR x y.1), [(false, (.fz (.int .i64)))], fun x y => ((laws_dice_below_r0R x y.1), ())⟩
def c_laws_dice_below : Ct := wtCt w0_laws_dice_below
theorem w2_laws_dice_below (x : w0_laws_dice_below.o.strip.den) (y : denL w0_laws_dice_below.as) (K : spec_l01SourceD -> (Int × Unit) -> Prop) : evFw tab (lkp []) (cutL [(5, 9), (6, 12)]) Try.f13 (bodyOf Try.f13) an_laws_dice_below w0_laws_dice_below x y K = W_laws_dice_below x y.1 K := by kernel_rfl
theorem ct_laws_dice_below : CtOk Try.prog 13 c_laws_dice_below :=
 wt_of (Φ := lkp []) good_nil tab_ok (by kernel_rfl) (fn := Try.f13) (c := bodyOf Try.f13) (by kernel_rfl) (by kernel_rfl) (by kernel_rfl) w0_laws_dice_below an_laws_dice_below (cutL [(5, 9), (6, 12)]) (by kernel_rfl) (by kernel_rfl) k_laws_dice_below (by decide) (by kernel_rfl) (fun x y h1 h2 h3 => (w2_laws_dice_below x y _).mpr ((e_laws_dice_below x y.1).choose_spec h1 h2 h3).1)
theorem below_p {d : spec_l01SourceD} {n : Int} (h : SrcR d) (hn : inK .i64 n) : SrcR (laws_dice_below_zR d n) /\ 0 <= laws_dice_below_r0R d n /\ (1 <= n -> laws_dice_below_r0R d n < n) := by
 obtain ⟨h1, h2, h3, h4⟩ := q_laws_dice_below d n h.1 ⟨hn, trivial⟩ ⟨h.2, trivial⟩
 exact ⟨⟨h1, h3⟩, h4.1, h4.2.1⟩
def c_impl_Category_arrows : Ct := ⟨[(.pt CategoryT)], [false], fun x => [], [(false, (.fz (.int .i64)))], fun x => ((x.1.2.1.length : Int), ()), false, none⟩
def W_impl_Category_arrows (c : CategoryD) (K : Int × Unit -> Prop) : Prop := (K (((c.2.1.length : Nat) : Int), ()))
theorem w_impl_Category_arrows (x : denL c_impl_Category_arrows.args) (K : Int × Unit -> Prop) : evF tab (lkp []) (cutL []) Try.f40 (bodyOf Try.f40) .n c_impl_Category_arrows x K = W_impl_Category_arrows x.1 K := by kernel_rfl
theorem k_impl_Category_arrows : okC Try.f40.ntmps (cutL []) (bodyOf Try.f40) = true := by kernel_rfl
theorem m_impl_Category_arrows (c : CategoryD) (hok : allP (okL c_impl_Category_arrows.args (c, ()))) (hpre : allP (c_impl_Category_arrows.pre (c, ()))) : W_impl_Category_arrows c (fun r => r = c_impl_Category_arrows.res (c, ())) := by
 simp only [c_impl_Category_arrows, okL, T.oks, T.ok, ap, allP, true_and, and_true, implies_true] at hok hpre
 try dsimp only [T.den] at hok
 try dsimp only [T.den] at hpre
 unfold W_impl_Category_arrows
 rfl
theorem ct_impl_Category_arrows : CtOk Try.prog 40 c_impl_Category_arrows :=
 ct_by (Φ := lkp []) good_nil tab_ok (by kernel_rfl) (fn := Try.f40) (c := bodyOf Try.f40) (by kernel_rfl) (by kernel_rfl) (by kernel_rfl) c_impl_Category_arrows rfl .n (cutL []) (by kernel_rfl) (by kernel_rfl) k_impl_Category_arrows (by decide) (fun x K => W_impl_Category_arrows x.1 K) w_impl_Category_arrows (fun x h1 h2 => m_impl_Category_arrows x.1 h1 h2)
def c_impl_Category_ends : Ct := ⟨[(.pt CategoryT), (.int .i64)], [false, false], fun x => [0 <= x.2.1, x.2.1 < x.1.2.1.length, x.2.1 < x.1.2.2.1.length], [(true, (.fz endsT))], fun x => (((x.1.2.1.getD x.2.1.toNat 0, x.1.2.2.1.getD x.2.1.toNat 0) : Int × Int), ()), false, none⟩
def W_impl_Category_ends (c : CategoryD) (f : Int) (K : endsD × Unit -> Prop) : Prop := ((0 <= f) /\ ((f < ((c.2.1.length : Nat) : Int)) /\ ((0 <= f) /\ ((f < ((c.2.2.1.length : Nat) : Int)) /\ (K (((List.getD c.2.1 f.toNat 0), (List.getD c.2.2.1 f.toNat 0)), ()))))))
theorem w_impl_Category_ends (x : denL c_impl_Category_ends.args) (K : endsD × Unit -> Prop) : evF tab (lkp []) (cutL [(1, 15)]) Try.f99 (bodyOf Try.f99) .n c_impl_Category_ends x K = W_impl_Category_ends x.1 x.2.1 K := by kernel_rfl
theorem k_impl_Category_ends : okC Try.f99.ntmps (cutL [(1, 15)]) (bodyOf Try.f99) = true := by kernel_rfl
theorem m_impl_Category_ends (c : CategoryD) (f : Int) (hok : allP (okL c_impl_Category_ends.args (c, f, ()))) (hpre : allP (c_impl_Category_ends.pre (c, f, ()))) : W_impl_Category_ends c f (fun r => r = c_impl_Category_ends.res (c, f, ())) := by
 simp only [c_impl_Category_ends, okL, T.oks, T.ok, ap, allP, true_and, and_true, implies_true] at hok hpre
 try dsimp only [T.den] at hok
 try dsimp only [T.den] at hpre
 unfold W_impl_Category_ends
 exact ⟨hpre.1, hpre.2.1, hpre.1, hpre.2.2, rfl⟩
theorem ct_impl_Category_ends : CtOk Try.prog 99 c_impl_Category_ends :=
 ct_by (Φ := lkp []) good_nil tab_ok (by kernel_rfl) (fn := Try.f99) (c := bodyOf Try.f99) (by kernel_rfl) (by kernel_rfl) (by kernel_rfl) c_impl_Category_ends rfl .n (cutL [(1, 15)]) (by kernel_rfl) (by kernel_rfl) k_impl_Category_ends (by decide) (fun x K => W_impl_Category_ends x.1 x.2.1 K) w_impl_Category_ends (fun x h1 h2 => m_impl_Category_ends x.1 x.2.1 h1 h2)
def compR (c : CategoryD) (f g : Int) : Int := (c.2.2.2.2.getD f.toNat []).getD g.toNat 0
def c_impl_Category_then : Ct := ⟨[(.pt CategoryT), (.int .i64), (.int .i64)], [false, false, false], fun x => [0 <= x.2.1, x.2.1 < x.1.2.2.2.2.length, 0 <= x.2.2.1, x.2.2.1 < (x.1.2.2.2.2.getD x.2.1.toNat []).length], [(false, (.fz (.int .i64)))], fun x => (compR x.1 x.2.1 x.2.2.1, ()), false, none⟩
def W_impl_Category_then (c : CategoryD) (f : Int) (g : Int) (K : Int × Unit -> Prop) : Prop := ((0 <= f) /\ ((f < ((c.2.2.2.2.length : Nat) : Int)) /\ ((0 <= g) /\ ((g < (((List.length (List.getD c.2.2.2.2 f.toNat [])) : Nat) : Int)) /\ (K ((List.getD (List.getD c.2.2.2.2 f.toNat []) g.toNat 0), ()))))))
theorem w_impl_Category_then (x : denL c_impl_Category_then.args) (K : Int × Unit -> Prop) : evF tab (lkp []) (cutL []) Try.f67 (bodyOf Try.f67) .n c_impl_Category_then x K = W_impl_Category_then x.1 x.2.1 x.2.2.1 K := by kernel_rfl
theorem k_impl_Category_then : okC Try.f67.ntmps (cutL []) (bodyOf Try.f67) = true := by kernel_rfl
theorem m_impl_Category_then (c : CategoryD) (f : Int) (g : Int) (hok : allP (okL c_impl_Category_then.args (c, f, g, ()))) (hpre : allP (c_impl_Category_then.pre (c, f, g, ()))) : W_impl_Category_then c f g (fun r => r = c_impl_Category_then.res (c, f, g, ())) := by
 simp only [c_impl_Category_then, okL, T.oks, T.ok, ap, allP, true_and, and_true, implies_true] at hok hpre
 try dsimp only [T.den] at hok
 try dsimp only [T.den] at hpre
 unfold W_impl_Category_then
 exact ⟨hpre.1, hpre.2.1, hpre.2.2.1, hpre.2.2.2, rfl⟩
theorem ct_impl_Category_then : CtOk Try.prog 67 c_impl_Category_then :=
 ct_by (Φ := lkp []) good_nil tab_ok (by kernel_rfl) (fn := Try.f67) (c := bodyOf Try.f67) (by kernel_rfl) (by kernel_rfl) (by kernel_rfl) c_impl_Category_then rfl .n (cutL []) (by kernel_rfl) (by kernel_rfl) k_impl_Category_then (by decide) (fun x K => W_impl_Category_then x.1 x.2.1 x.2.2.1 K) w_impl_Category_then (fun x h1 h2 => m_impl_Category_then x.1 x.2.1 x.2.2.1 h1 h2)
def c_impl_inRange : Ct := ⟨[(.int .i64), (.int .i64), (.int .i64)], [false, false, false], fun x => [], [(false, (.fz .bool))], fun x => (inR x.1 x.2.1 x.2.2.1, ()), false, none⟩
def W_impl_inRange (n : Int) (low : Int) (high : Int) (K : Bool × Unit -> Prop) : Prop := (K (((decide (low <= n)) && (decide (n <= high))), ()))
theorem w_impl_inRange (x : denL c_impl_inRange.args) (K : Bool × Unit -> Prop) : evF tab (lkp []) (cutL []) Try.f81 (bodyOf Try.f81) .n c_impl_inRange x K = W_impl_inRange x.1 x.2.1 x.2.2.1 K := by kernel_rfl
theorem k_impl_inRange : okC Try.f81.ntmps (cutL []) (bodyOf Try.f81) = true := by kernel_rfl
theorem m_impl_inRange (n : Int) (low : Int) (high : Int) (hok : allP (okL c_impl_inRange.args (n, low, high, ()))) (hpre : allP (c_impl_inRange.pre (n, low, high, ()))) : W_impl_inRange n low high (fun r => r = c_impl_inRange.res (n, low, high, ())) := by
 simp only [c_impl_inRange, okL, T.oks, T.ok, ap, allP, true_and, and_true, implies_true] at hok hpre
 try dsimp only [T.den] at hok
 try dsimp only [T.den] at hpre
 unfold W_impl_inRange
 grind [cnd, nb_eq, inK64, c_impl_inRange, inR]
theorem ct_impl_inRange : CtOk Try.prog 81 c_impl_inRange :=
 ct_by (Φ := lkp []) good_nil tab_ok (by kernel_rfl) (fn := Try.f81) (c := bodyOf Try.f81) (by kernel_rfl) (by kernel_rfl) (by kernel_rfl) c_impl_inRange rfl .n (cutL []) (by kernel_rfl) (by kernel_rfl) k_impl_inRange (by decide) (fun x K => W_impl_inRange x.1 x.2.1 x.2.2.1 K) w_impl_inRange (fun x h1 h2 => m_impl_inRange x.1 x.2.1 x.2.2.1 h1 h2)
def c_impl_within : Ct := ⟨[(.sl (.int .i64)), (.int .i64)], [false, false], fun x => [inK .i64 (x.2.1 - 1)], [(false, (.fz .bool))], fun x => (withinR x.1 x.2.1, ()), false, none⟩
def an_impl_within : Ann := (.s .n (.s (.s .n (.l [(9, (.d (.int .i64)))] [] [1, 7, 8] .n)) .n))
def W_impl_within (list : List Int) (n : Int) (K : Bool × Unit -> Prop) : Prop := (loopW (S := ((Int × Unit) × Unit)) (fun s => (fun next => ((inK .i64 s.1.1) -> (cnd (decide (s.1.1 < ((list.length : Nat) : Int))) ((0 <= s.1.1) /\ ((s.1.1 < ((list.length : Nat) : Int)) /\ ((inK .i64 (n - 1)) /\ (cnd (!(inR (List.getD list s.1.1.toNat 0) 0 (n - 1))) (K (false, ())) ((inK .i64 (s.1.1 + 1)) /\ (next (((s.1.1 + 1), ()), ()))))))) (K (true, ())))))) ((0, ()), ()))
theorem w_impl_within (x : denL c_impl_within.args) (K : Bool × Unit -> Prop) : evF tab (lkp [(81, c_impl_inRange)]) (cutL []) Try.f39 (bodyOf Try.f39) an_impl_within c_impl_within x K = W_impl_within x.1 x.2.1 K := by kernel_rfl
theorem k_impl_within : okC Try.f39.ntmps (cutL []) (bodyOf Try.f39) = true := by kernel_rfl
theorem m_impl_within (list : List Int) (n : Int) (hok : allP (okL c_impl_within.args (list, n, ()))) (hpre : allP (c_impl_within.pre (list, n, ()))) : W_impl_within list n (fun r => r = c_impl_within.res (list, n, ())) := by
 simp only [c_impl_within, okL, T.oks, T.ok, ap, allP, true_and, and_true, implies_true] at hok hpre
 try dsimp only [T.den] at hok
 try dsimp only [T.den] at hpre
 unfold W_impl_within
 refine loop_of (fun (s : ((Int × Unit) × Unit)) => 0 <= s.1.1 /\ s.1.1 <= list.length /\ withinR list n = withinR (list.drop s.1.1.toNat) n) (fun (s : ((Int × Unit) × Unit)) => (list.length - s.1.1).toNat) ?_ (by simp)
 rintro ⟨⟨i, _⟩, _⟩ next ⟨h0, h1, h2⟩ hn hin
 simp only at h0 h1 h2 hn ⊢
 refine cnd_d (fun hc => ?_) (fun hc => ?_)
 ·rw [drop_c list 0 h0 hc] at h2
  simp only [withinR, List.all_cons] at h2
  grind [cnd, nb_eq, inK64, c_impl_within, withinR]
 ·rw [drop_n list (by omega)] at h2
  grind [cnd, nb_eq, inK64, c_impl_within, withinR]
theorem ct_impl_within : CtOk Try.prog 39 c_impl_within :=
 ct_by (Φ := lkp [(81, c_impl_inRange)]) (good_cons ct_impl_inRange good_nil) tab_ok (by kernel_rfl) (fn := Try.f39) (c := bodyOf Try.f39) (by kernel_rfl) (by kernel_rfl) (by kernel_rfl) c_impl_within rfl an_impl_within (cutL []) (by kernel_rfl) (by kernel_rfl) k_impl_within (by decide) (fun x K => W_impl_within x.1 x.2.1 K) w_impl_within (fun x h1 h2 => m_impl_within x.1 x.2.1 h1 h2)
def cellQ (c : CategoryD) (f g v : Int) : Bool :=
 if c.2.2.1.getD f.toNat 0 = c.2.1.getD g.toNat 0 then decide (0 <= v /\ v < c.2.1.length /\ c.2.1.getD v.toNat 0 = c.2.1.getD f.toNat 0 /\ c.2.2.1.getD v.toNat 0 = c.2.2.1.getD g.toNat 0)
 else decide (v = -1)
def cellR (c : CategoryD) (f g : Int) : Bool := cellQ c f g (compR c f g)
structure ShapeP (c : CategoryD) : Prop where
 ob : 0 <= c.1 /\ c.1 <= 8
 m : c.2.1.length <= 40
 lt : c.2.2.1.length = c.2.1.length
 fr : withinR c.2.1 c.1 = true
 to : withinR c.2.2.1 c.1 = true
 li : (c.2.2.2.1.length : Int) = c.1
 ids : withinR c.2.2.2.1 c.2.1.length = true
 lc : c.2.2.2.2.length = c.2.1.length
 idt : ∀ x : Int, 0 <= x -> x < c.1 -> c.2.1.getD (c.2.2.2.1.getD x.toNat 0).toNat 0 = x /\ c.2.2.1.getD (c.2.2.2.1.getD x.toNat 0).toNat 0 = x
 row : ∀ f : Int, 0 <= f -> f < c.2.1.length -> (c.2.2.2.2.getD f.toNat []).length = c.2.1.length
 cell : ∀ f g : Int, 0 <= f -> f < c.2.1.length -> 0 <= g -> g < c.2.1.length -> cellR c f g = true
def shapeR (c : CategoryD) : Bool := inR c.1 0 8 && decide (c.2.1.length <= 40) && decide (c.2.2.1.length = c.2.1.length) && withinR c.2.1 c.1 && withinR c.2.2.1 c.1 && decide ((c.2.2.2.1.length : Int) = c.1) && withinR c.2.2.2.1 c.2.1.length &&
 decide (c.2.2.2.2.length = c.2.1.length) && allB c.1.toNat (fun x => decide (c.2.1.getD (c.2.2.2.1.getD x.toNat 0).toNat 0 = x /\ c.2.2.1.getD (c.2.2.2.1.getD x.toNat 0).toNat 0 = x)) &&
 allB c.2.1.length (fun f => decide ((c.2.2.2.2.getD f.toNat []).length = c.2.1.length)) && allB c.2.1.length (fun f => allB c.2.1.length fun g => cellR c f g)
theorem shape_iff {c : CategoryD} : shapeR c = true ↔ ShapeP c := by
 simp only [shapeR, Bool.and_eq_true, decide_eq_true_eq, inR, allB_iff]
 constructor
 ·rintro ⟨⟨⟨⟨⟨⟨⟨⟨⟨⟨h0, h1⟩, h2⟩, h3⟩, h4⟩, h5⟩, h6⟩, h7⟩, h8⟩, h9⟩, h10⟩
  exact ⟨h0, h1, h2, h3, h4, h5, h6, h7, fun x a b => h8 x a (by omega), h9, fun f g a b d e => h10 f a b g d e⟩
 ·intro h
  exact ⟨⟨⟨⟨⟨⟨⟨⟨⟨⟨h.ob, h.m⟩, h.lt⟩, h.fr⟩, h.to⟩, h.li⟩, h.ids⟩, h.lc⟩, fun x a b => h.idt x a (by have := h.ob; omega)⟩, h.row⟩, fun f a b g d e => h.cell f g a b d e⟩
theorem shape_f {c : CategoryD} (h : ¬ ShapeP c) : shapeR c = false := by
 cases hs : shapeR c with
 | false => rfl
 | true => exact absurd (shape_iff.1 hs) h
theorem shape_t {c : CategoryD} (h : ShapeP c) : shapeR c = true := shape_iff.2 h
def c_impl_Category_isShape : Ct := ⟨[(.pt CategoryT)], [false], fun x => [], [(false, (.fz .bool))], fun x => (shapeR x.1, ()), false, none⟩
def an_impl_Category_isShape : Ann := (.s .n (.s .n (.s .n (.s .n (.s (.s .n (.l [(88, (.d (.int .i64)))] [] [0, 3, 86, 87] .n)) (.s (.s .n (.l [(106, (.d (.int .i64)))] [] [0, 3, 104, 105] (.s .n (.s .n (.s (.s .n (.s .n (.s .n (.l [(117, (.d (.int .i64)))] [] [0, 3, 6, 104, 105, 106, 115, 116] (.s .n (.s .n (.s (.j [] [] [0, 3, 6, 104, 105, 106, 115, 116, 117] .n) .n))))))) .n))))) .n))))))
def ph_impl_Category_isShape : FuncId -> Option Ct := lkp [(40, c_impl_Category_arrows), (99, c_impl_Category_ends), (81, c_impl_inRange), (39, c_impl_within)]
def W_impl_Category_isShape (c : CategoryD) (K : Bool × Unit -> Prop) : Prop := ((((((!(inR c.1 0 8)) || (decide (40 < ((c.2.1.length : Nat) : Int)))) || (((c.2.2.1.length : Nat) : Int) != ((c.2.1.length : Nat) : Int))) = false) -> (inK .i64 (c.1 - 1))) /\ (((((((!(inR c.1 0 8)) || (decide (40 < ((c.2.1.length : Nat) : Int)))) || (((c.2.2.1.length : Nat) : Int) != ((c.2.1.length : Nat) : Int))) || (!(withinR c.2.1 c.1))) = false) -> (inK .i64 (c.1 - 1))) /\ (cnd (((((!(inR c.1 0 8)) || (decide (40 < ((c.2.1.length : Nat) : Int)))) || (((c.2.2.1.length : Nat) : Int) != ((c.2.1.length : Nat) : Int))) || (!(withinR c.2.1 c.1))) || (!(withinR c.2.2.1 c.1))) (K (false, ())) ((((((c.2.2.2.1.length : Nat) : Int) != c.1) = false) -> (inK .i64 (((c.2.1.length : Nat) : Int) - 1))) /\ (cnd (((((c.2.2.2.1.length : Nat) : Int) != c.1) || (!(withinR c.2.2.2.1 ((c.2.1.length : Nat) : Int)))) || (((c.2.2.2.2.length : Nat) : Int) != ((c.2.1.length : Nat) : Int))) (K (false, ())) (loopW (S := ((Int × Unit) × Unit)) (fun s => (fun next => ((inK .i64 s.1.1) -> (cnd (decide (s.1.1 < ((c.2.2.2.1.length : Nat) : Int))) ((0 <= s.1.1) /\ ((s.1.1 < ((c.2.2.2.1.length : Nat) : Int)) /\ ((0 <= (List.getD c.2.2.2.1 s.1.1.toNat 0)) /\ (((List.getD c.2.2.2.1 s.1.1.toNat 0) < ((c.2.1.length : Nat) : Int)) /\ (((List.getD c.2.2.2.1 s.1.1.toNat 0) < ((c.2.2.1.length : Nat) : Int)) /\ (cnd (!(((List.getD c.2.1 (Int.toNat (List.getD c.2.2.2.1 s.1.1.toNat 0)) 0) == s.1.1) && ((List.getD c.2.2.1 (Int.toNat (List.getD c.2.2.2.1 s.1.1.toNat 0)) 0) == s.1.1))) (K (false, ())) ((inK .i64 (s.1.1 + 1)) /\ (next (((s.1.1 + 1), ()), ()))))))))) (loopW (S := ((Int × Unit) × Unit)) (fun s1 => (fun next1 => ((inK .i64 s1.1.1) -> (cnd (decide (s1.1.1 < ((c.2.2.2.2.length : Nat) : Int))) ((0 <= s1.1.1) /\ ((s1.1.1 < ((c.2.2.2.2.length : Nat) : Int)) /\ (cnd ((((List.length (List.getD c.2.2.2.2 s1.1.1.toNat [])) : Nat) : Int) != ((c.2.1.length : Nat) : Int)) (K (false, ())) (loopW (S := ((Int × Unit) × Unit)) (fun s2 => (fun next2 => ((inK .i64 s2.1.1) -> (cnd (decide (s2.1.1 < (((List.length (List.getD c.2.2.2.2 s1.1.1.toNat [])) : Nat) : Int))) (joinW (S := (Unit × Unit)) (fun s3 => ((inK .i64 (s2.1.1 + 1)) /\ (next2 (((s2.1.1 + 1), ()), ())))) (fun k => ((0 <= s2.1.1) /\ ((s2.1.1 < (((List.length (List.getD c.2.2.2.2 s1.1.1.toNat [])) : Nat) : Int)) /\ ((0 <= s1.1.1) /\ ((s1.1.1 < ((c.2.2.1.length : Nat) : Int)) /\ ((0 <= s2.1.1) /\ ((s2.1.1 < ((c.2.1.length : Nat) : Int)) /\ (cnd ((List.getD c.2.2.1 s1.1.1.toNat 0) != (List.getD c.2.1 s2.1.1.toNat 0)) (cnd ((List.getD (List.getD c.2.2.2.2 s1.1.1.toNat []) s2.1.1.toNat 0) != (-1)) (K (false, ())) (k ((), ()))) ((inK .i64 (((c.2.1.length : Nat) : Int) - 1)) /\ ((((!(inR (List.getD (List.getD c.2.2.2.2 s1.1.1.toNat []) s2.1.1.toNat 0) 0 (((c.2.1.length : Nat) : Int) - 1))) = false) -> (((List.getD (List.getD c.2.2.2.2 s1.1.1.toNat []) s2.1.1.toNat 0) < ((c.2.1.length : Nat) : Int)) /\ (((List.getD (List.getD c.2.2.2.2 s1.1.1.toNat []) s2.1.1.toNat 0) < ((c.2.2.1.length : Nat) : Int)) /\ (0 <= (List.getD (List.getD c.2.2.2.2 s1.1.1.toNat []) s2.1.1.toNat 0))))) /\ ((((!(inR (List.getD (List.getD c.2.2.2.2 s1.1.1.toNat []) s2.1.1.toNat 0) 0 (((c.2.1.length : Nat) : Int) - 1))) = false) -> ((s1.1.1 < ((c.2.1.length : Nat) : Int)) /\ (0 <= s1.1.1))) /\ ((((!(inR (List.getD (List.getD c.2.2.2.2 s1.1.1.toNat []) s2.1.1.toNat 0) 0 (((c.2.1.length : Nat) : Int) - 1))) = false) -> ((s2.1.1 < ((c.2.2.1.length : Nat) : Int)) /\ (0 <= s2.1.1))) /\ (cnd ((!(inR (List.getD (List.getD c.2.2.2.2 s1.1.1.toNat []) s2.1.1.toNat 0) 0 (((c.2.1.length : Nat) : Int) - 1))) || (!(((List.getD c.2.1 (Int.toNat (List.getD (List.getD c.2.2.2.2 s1.1.1.toNat []) s2.1.1.toNat 0)) 0) == (List.getD c.2.1 s1.1.1.toNat 0)) && ((List.getD c.2.2.1 (Int.toNat (List.getD (List.getD c.2.2.2.2 s1.1.1.toNat []) s2.1.1.toNat 0)) 0) == (List.getD c.2.2.1 s2.1.1.toNat 0))))) (K (false, ())) (k ((), ())))))))))))))))) ((inK .i64 (s1.1.1 + 1)) /\ (next1 (((s1.1.1 + 1), ()), ()))))))) ((0, ()), ()))))) (K (true, ())))))) ((0, ()), ())))))) ((0, ()), ())))))))
theorem w_impl_Category_isShape (x : denL c_impl_Category_isShape.args) (K : Bool × Unit -> Prop) : evF tab ph_impl_Category_isShape (cutL [(2, 43), (20, 15), (4, 28), (23, 26)]) Try.f108 (bodyOf Try.f108) an_impl_Category_isShape c_impl_Category_isShape x K = W_impl_Category_isShape x.1 K := by kernel_rfl
theorem k_impl_Category_isShape : okC Try.f108.ntmps (cutL [(2, 43), (20, 15), (4, 28), (23, 26)]) (bodyOf Try.f108) = true := by kernel_rfl
theorem m_impl_Category_isShape (c : CategoryD) (hok : allP (okL c_impl_Category_isShape.args (c, ()))) (hpre : allP (c_impl_Category_isShape.pre (c, ()))) : W_impl_Category_isShape c (fun r => r = c_impl_Category_isShape.res (c, ())) := by
 simp only [c_impl_Category_isShape, okL, T.oks, T.ok, ap, allP, true_and, and_true, implies_true] at hok hpre
 try dsimp only [T.den] at hok
 try dsimp only [T.den] at hpre
 unfold W_impl_Category_isShape
 refine ⟨by grind [cnd, nb_eq, inK64, inR], by grind [cnd, nb_eq, inK64, inR], cnd_of (fun hc => ?_) (fun hc => ⟨by rw [inK64]; have := hok.2.1.1; grind [cnd, nb_eq, inK64], cnd_of (fun hd => ?_) (fun hd => ?_)⟩)⟩
 ·simp only [c_impl_Category_isShape]; rw [shape_f]; intro h; have h1 := h.ob; have h2 := h.m; have h3 := h.lt; have h4 := h.fr; have h5 := h.to; simp only [inR] at hc; grind [cnd, nb_eq, inK64]
 ·simp only [c_impl_Category_isShape]; rw [shape_f]; intro h; have h1 := h.li; have h2 := h.ids; have h3 := h.lc; grind [cnd, nb_eq, inK64]
 simp only [inR, Bool.or_eq_false_iff, Bool.not_eq_false', Bool.and_eq_true, decide_eq_true_eq, decide_eq_false_iff_not, bne_eq_false_iff_eq] at hc hd
 obtain ⟨⟨⟨⟨hob, hm⟩, hlt⟩, hfr⟩, hto⟩ := hc
 obtain ⟨⟨hli, hids⟩, hlc⟩ := hd
 have bad : ¬ ShapeP c -> (false, ()) = c_impl_Category_isShape.res (c, ()) := fun h => by simp only [c_impl_Category_isShape]; rw [shape_f h]
 refine loop_ix (n := c.2.2.2.1.length) (fun x => ∀ y : Int, 0 <= y -> y < x -> c.2.1.getD (c.2.2.2.1.getD y.toNat 0).toNat 0 = y /\ c.2.2.1.getD (c.2.2.2.1.getD y.toNat 0).toNat 0 = y) (by omega) (by intro y h0 h1; omega) ?_ ?_
 ·intro x next h0 h1 hP hn hin
  have hb := within_iff.1 hids x h0 h1
  try dsimp only
  refine cnd_d (fun _ => ⟨h0, h1, hb.1, hb.2, by omega, cnd_of (fun hx => bad fun h => ?_) (fun hx => ?_)⟩) (fun h => absurd h1 h)
  ·have := h.idt x h0 (by omega)
   rw [this.1, this.2] at hx
   simp at hx
  ·simp only [Bool.not_eq_false', Bool.and_eq_true, beq_iff_eq] at hx
   refine ⟨by rw [inK64]; (try dsimp only); omega, hn fun y y0 y1 => ?_⟩
   by_cases e : y = x
   ·rw [e]; exact hx
   ·exact hP y y0 (by omega)
 intro next hidt hin
 refine cnd_d (fun h => absurd h (by dsimp only; omega)) (fun _ => ?_)
 refine loop_ix (n := c.2.2.2.2.length) (fun f => ∀ f' : Int, 0 <= f' -> f' < f -> (c.2.2.2.2.getD f'.toNat []).length = c.2.1.length /\ ∀ g : Int, 0 <= g -> g < c.2.1.length -> cellR c f' g = true) (by omega) (by intro y h0 h1; omega) ?_ ?_
 ·intro f next h0 h1 hP hn hin
  try dsimp only
  refine cnd_d (fun _ => ⟨h0, h1, cnd_of (fun hx => bad fun h => ?_) (fun hx => ?_)⟩) (fun h => absurd h1 h)
  ·have := h.row f h0 (by omega)
   rw [this] at hx
   simp at hx
  simp only [bne_eq_false_iff_eq] at hx
  refine loop_ix (n := (c.2.2.2.2.getD f.toNat []).length) (fun g => ∀ g' : Int, 0 <= g' -> g' < g -> cellR c f g' = true) (by omega) (by intro y h0 h1; omega) ?_ ?_
  ·intro g next3 g0 g1 hP3 hn3 hin3
   try dsimp only
   refine cnd_d (fun _ => ?_) (fun h => absurd g1 h)
   refine join_of (fun _ => cellR c f g = true) (fun _ hcell => ⟨by rw [inK64]; (try dsimp only); omega, hn3 fun g' y0 y1 => ?_⟩) (fun k hk => ?_)
   ·by_cases e : g' = g
    ·rw [e]; exact hcell
    ·exact hP3 g' y0 (by omega)
   have hcell : ∀ b, cellR c f g = b -> b = false -> ¬ ShapeP c := fun b h1 h2 h => by
    have := h.cell f g h0 (by omega) g0 (by omega)
    rw [h1, h2] at this; cases this
   have hk' := hk ((), ())
   obtain ⟨v, hv⟩ : ∃ v, (c.2.2.2.2.getD f.toNat []).getD g.toNat 0 = v := ⟨_, rfl⟩
   have hR : cellR c f g = cellQ c f g v := by unfold cellR compR; rw [hv]
   rw [hR] at hk'
   rw [hR] at hcell
   rw [hv]
   clear hP3 hn3 hP hn hk hR hv hidt hok
   refine ⟨g0, g1, h0, by omega, g0, by omega, cnd_of (fun ha => cnd_of (fun hb => bad ?_) (fun hb => hk' ?_)) (fun ha => ⟨by rw [inK64]; (try dsimp only); omega, fun hv => ?_, fun _ => ⟨by omega, h0⟩, fun _ => ⟨by omega, g0⟩, cnd_of (fun hb => bad ?_) (fun hb => hk' ?_)⟩)⟩
   ·exact hcell _ rfl (by grind [cnd, nb_eq, inK64, cellQ])
   ·grind [cnd, nb_eq, inK64, cellQ]
   ·simp only [inR, Bool.not_eq_false', Bool.and_eq_true, decide_eq_true_eq] at hv; omega
   ·exact hcell _ rfl (by simp only [inR] at hb; grind [cnd, nb_eq, inK64, cellQ])
   ·simp only [inR] at hb; grind [cnd, nb_eq, inK64, cellQ]
  ·intro next3 hP3 hin3
   refine cnd_d (fun h => absurd h (by dsimp only; omega)) (fun _ => ⟨by rw [inK64]; (try dsimp only); omega, hn fun f' y0 y1 => ?_⟩)
   by_cases e : f' = f
   ·rw [e]; exact ⟨by omega, fun g g0 g1 => hP3 g g0 (by omega)⟩
   ·exact hP f' y0 (by omega)
 ·intro next2 hP2 hin2
  refine cnd_d (fun h => absurd h (by dsimp only; omega)) (fun _ => ?_)
  simp only [c_impl_Category_isShape]
  rw [shape_t ⟨hob, by omega, by omega, hfr, hto, by omega, hids, by omega, fun x a b => hidt x a (by omega), fun f a b => (hP2 f a (by omega)).1, fun f g a b d e => (hP2 f a (by omega)).2 g d e⟩]
theorem ct_impl_Category_isShape : CtOk Try.prog 108 c_impl_Category_isShape :=
 ct_by (Φ := ph_impl_Category_isShape) (good_cons ct_impl_Category_arrows (good_cons ct_impl_Category_ends (good_cons ct_impl_inRange (good_cons ct_impl_within good_nil)))) tab_ok (by kernel_rfl) (fn := Try.f108) (c := bodyOf Try.f108) (by kernel_rfl) (by kernel_rfl) (by kernel_rfl) c_impl_Category_isShape rfl an_impl_Category_isShape (cutL [(2, 43), (20, 15), (4, 28), (23, 26)]) (by kernel_rfl) (by kernel_rfl) k_impl_Category_isShape (by decide) (fun x K => W_impl_Category_isShape x.1 K) w_impl_Category_isShape (fun x h1 h2 => m_impl_Category_isShape x.1 h1 h2)
theorem ShapeP.frm {c : CategoryD} (h : ShapeP c) {f : Int} (h0 : 0 <= f) (h1 : f < c.2.1.length) : 0 <= c.2.1.getD f.toNat 0 /\ c.2.1.getD f.toNat 0 < c.1 /\ 0 <= c.2.2.1.getD f.toNat 0 /\ c.2.2.1.getD f.toNat 0 < c.1 := by
 have a := within_iff.1 h.fr f h0 h1
 have b := within_iff.1 h.to f h0 (by have := h.lt; omega)
 exact ⟨a.1, a.2, b.1, b.2⟩
theorem ShapeP.idn {c : CategoryD} (h : ShapeP c) {x : Int} (h0 : 0 <= x) (h1 : x < c.1) : 0 <= c.2.2.2.1.getD x.toNat 0 /\ c.2.2.2.1.getD x.toNat 0 < c.2.1.length /\ c.2.1.getD (c.2.2.2.1.getD x.toNat 0).toNat 0 = x /\ c.2.2.1.getD (c.2.2.2.1.getD x.toNat 0).toNat 0 = x := by
 have a := within_iff.1 h.ids x h0 (by have := h.li; omega)
 have b := h.idt x h0 h1
 exact ⟨a.1, a.2, b.1, b.2⟩
theorem ShapeP.yes {c : CategoryD} (h : ShapeP c) {f g : Int} (h0 : 0 <= f) (h1 : f < c.2.1.length) (g0 : 0 <= g) (g1 : g < c.2.1.length) (e : c.2.2.1.getD f.toNat 0 = c.2.1.getD g.toNat 0) :
  0 <= compR c f g /\ compR c f g < c.2.1.length /\ c.2.1.getD (compR c f g).toNat 0 = c.2.1.getD f.toNat 0 /\ c.2.2.1.getD (compR c f g).toNat 0 = c.2.2.1.getD g.toNat 0 := by
 have := h.cell f g h0 h1 g0 g1
 unfold cellR cellQ at this
 rw [if_pos e] at this
 simpa using this
theorem ShapeP.no {c : CategoryD} (h : ShapeP c) {f g : Int} (h0 : 0 <= f) (h1 : f < c.2.1.length) (g0 : 0 <= g) (g1 : g < c.2.1.length) (e : c.2.2.1.getD f.toNat 0 ≠ c.2.1.getD g.toNat 0) : compR c f g = -1 := by
 have := h.cell f g h0 h1 g0 g1
 unfold cellR cellQ at this
 rw [if_neg e] at this
 simpa using this
theorem ShapeP.comp {c : CategoryD} (h : ShapeP c) {f g : Int} (h0 : 0 <= f) (h1 : f < c.2.1.length) (g0 : 0 <= g) (g1 : g < c.2.1.length) : 0 <= compR c f g ↔ c.2.2.1.getD f.toNat 0 = c.2.1.getD g.toNat 0 := by
 constructor
 ·intro h2
  by_cases e : c.2.2.1.getD f.toNat 0 = c.2.1.getD g.toNat 0
  ·exact e
  ·have := h.no h0 h1 g0 g1 e; omega
 ·intro e; exact (h.yes h0 h1 g0 g1 e).1
def faultI (c : CategoryD) (f : Int) : Option (Int × Int × Int × Int) :=
 if compR c (c.2.2.2.1.getD (c.2.1.getD f.toNat 0).toNat 0) f ≠ f ∨ compR c f (c.2.2.2.1.getD (c.2.2.1.getD f.toNat 0).toNat 0) ≠ f then some (1, f, 0, 0) else none
def faultH (c : CategoryD) (f g h : Int) : Option (Int × Int × Int × Int) :=
 if c.2.2.1.getD g.toNat 0 = c.2.1.getD h.toNat 0 /\ compR c (compR c f g) h ≠ compR c f (compR c g h) then some (2, f, g, h) else none
def faultG (c : CategoryD) (f g : Int) : Option (Int × Int × Int × Int) :=
 if c.2.2.1.getD f.toNat 0 = c.2.1.getD g.toNat 0 then scanR (faultH c f g) c.2.1.length 0 else none
def faultF (c : CategoryD) (f : Int) : Option (Int × Int × Int × Int) := scanR (faultG c f) c.2.1.length 0
def faultR (c : CategoryD) : Int × Int × Int × Int :=
 orR (scanR (faultI c) c.2.1.length 0) (orR (scanR (faultF c) c.2.1.length 0) (0, 0, 0, 0))
def c_impl_Category_fault : Ct := ⟨[(.pt CategoryT)], [false], fun x => [ShapeP x.1], [(false, (.fz (.int .i64))), (false, (.fz (.int .i64))), (false, (.fz (.int .i64))), (false, (.fz (.int .i64)))], fun x => ((faultR x.1).1, (faultR x.1).2.1, (faultR x.1).2.2.1, (faultR x.1).2.2.2, ()), false, none⟩
def an_impl_Category_fault : Ann := (.s .n (.s .n (.s (.s .n (.l [(7, (.d (.int .i64)))] [] [0, 6] .n)) (.s (.s .n (.l [(8, (.d (.int .i64)))] [] [0, 6] (.s .n (.s (.s .n (.l [(9, (.d (.int .i64)))] [] [0, 6, 8] (.s .n (.s (.j [] [] [0, 6, 8, 9] (.s .n (.s .n (.l [(10, (.d (.int .i64)))] [] [0, 6, 8, 9] .n)))) .n)))) .n)))) .n))))
def ph_impl_Category_fault : FuncId -> Option Ct := lkp [(40, c_impl_Category_arrows), (67, c_impl_Category_then)]
def W_impl_Category_fault (c : CategoryD) (K : Int × Int × Int × Int × Unit -> Prop) : Prop := (loopW (S := ((Int × Unit) × Unit)) (fun s => (fun next => ((inK .i64 s.1.1) -> (cnd (decide (s.1.1 < ((c.2.1.length : Nat) : Int))) ((0 <= s.1.1) /\ ((s.1.1 < ((c.2.1.length : Nat) : Int)) /\ ((0 <= (List.getD c.2.1 s.1.1.toNat 0)) /\ (((List.getD c.2.1 s.1.1.toNat 0) < ((c.2.2.2.1.length : Nat) : Int)) /\ ((0 <= (List.getD c.2.2.2.1 (Int.toNat (List.getD c.2.1 s.1.1.toNat 0)) 0)) /\ (((List.getD c.2.2.2.1 (Int.toNat (List.getD c.2.1 s.1.1.toNat 0)) 0) < ((c.2.2.2.2.length : Nat) : Int)) /\ ((0 <= s.1.1) /\ ((s.1.1 < (((List.length (List.getD c.2.2.2.2 (Int.toNat (List.getD c.2.2.2.1 (Int.toNat (List.getD c.2.1 s.1.1.toNat 0)) 0)) [])) : Nat) : Int)) /\ (((((compR c (List.getD c.2.2.2.1 (Int.toNat (List.getD c.2.1 s.1.1.toNat 0)) 0) s.1.1) != s.1.1) = false) -> ((s.1.1 < ((c.2.2.1.length : Nat) : Int)) /\ (0 <= s.1.1))) /\ (((((compR c (List.getD c.2.2.2.1 (Int.toNat (List.getD c.2.1 s.1.1.toNat 0)) 0) s.1.1) != s.1.1) = false) -> (((List.getD c.2.2.1 s.1.1.toNat 0) < ((c.2.2.2.1.length : Nat) : Int)) /\ (0 <= (List.getD c.2.2.1 s.1.1.toNat 0)))) /\ (((((compR c (List.getD c.2.2.2.1 (Int.toNat (List.getD c.2.1 s.1.1.toNat 0)) 0) s.1.1) != s.1.1) = false) -> ((s.1.1 < ((c.2.2.2.2.length : Nat) : Int)) /\ ((0 <= (List.getD c.2.2.2.1 (Int.toNat (List.getD c.2.2.1 s.1.1.toNat 0)) 0)) /\ (((List.getD c.2.2.2.1 (Int.toNat (List.getD c.2.2.1 s.1.1.toNat 0)) 0) < (((List.length (List.getD c.2.2.2.2 s.1.1.toNat [])) : Nat) : Int)) /\ (0 <= s.1.1))))) /\ (cnd (((compR c (List.getD c.2.2.2.1 (Int.toNat (List.getD c.2.1 s.1.1.toNat 0)) 0) s.1.1) != s.1.1) || ((compR c s.1.1 (List.getD c.2.2.2.1 (Int.toNat (List.getD c.2.2.1 s.1.1.toNat 0)) 0)) != s.1.1)) (K (1, (s.1.1, (0, (0, ()))))) ((inK .i64 (s.1.1 + 1)) /\ (next (((s.1.1 + 1), ()), ()))))))))))))))) (loopW (S := ((Int × Unit) × Unit)) (fun s1 => (fun next1 => ((inK .i64 s1.1.1) -> (cnd (decide (s1.1.1 < ((c.2.1.length : Nat) : Int))) (loopW (S := ((Int × Unit) × Unit)) (fun s2 => (fun next2 => ((inK .i64 s2.1.1) -> (cnd (decide (s2.1.1 < ((c.2.1.length : Nat) : Int))) (joinW (S := (Unit × Unit)) (fun s3 => ((inK .i64 (s2.1.1 + 1)) /\ (next2 (((s2.1.1 + 1), ()), ())))) (fun k => ((0 <= s1.1.1) /\ ((s1.1.1 < ((c.2.2.2.2.length : Nat) : Int)) /\ ((0 <= s2.1.1) /\ ((s2.1.1 < (((List.length (List.getD c.2.2.2.2 s1.1.1.toNat [])) : Nat) : Int)) /\ (cnd (decide ((compR c s1.1.1 s2.1.1) < 0)) (k ((), ())) (loopW (S := ((Int × Unit) × Unit)) (fun s3 => (fun next3 => ((inK .i64 s3.1.1) -> (cnd (decide (s3.1.1 < ((c.2.1.length : Nat) : Int))) ((0 <= s2.1.1) /\ ((s2.1.1 < ((c.2.2.2.2.length : Nat) : Int)) /\ ((0 <= s3.1.1) /\ ((s3.1.1 < (((List.length (List.getD c.2.2.2.2 s2.1.1.toNat [])) : Nat) : Int)) /\ ((((decide (0 <= (compR c s2.1.1 s3.1.1))) = true) -> ((s1.1.1 < ((c.2.2.2.2.length : Nat) : Int)) /\ ((0 <= s2.1.1) /\ ((s2.1.1 < (((List.length (List.getD c.2.2.2.2 s1.1.1.toNat [])) : Nat) : Int)) /\ (0 <= s1.1.1))))) /\ ((((decide (0 <= (compR c s2.1.1 s3.1.1))) = true) -> (((compR c s1.1.1 s2.1.1) < ((c.2.2.2.2.length : Nat) : Int)) /\ ((0 <= s3.1.1) /\ ((s3.1.1 < (((List.length (List.getD c.2.2.2.2 (Int.toNat (compR c s1.1.1 s2.1.1)) [])) : Nat) : Int)) /\ (0 <= (compR c s1.1.1 s2.1.1)))))) /\ ((((decide (0 <= (compR c s2.1.1 s3.1.1))) = true) -> ((s2.1.1 < ((c.2.2.2.2.length : Nat) : Int)) /\ ((0 <= s3.1.1) /\ ((s3.1.1 < (((List.length (List.getD c.2.2.2.2 s2.1.1.toNat [])) : Nat) : Int)) /\ (0 <= s2.1.1))))) /\ ((((decide (0 <= (compR c s2.1.1 s3.1.1))) = true) -> ((s1.1.1 < ((c.2.2.2.2.length : Nat) : Int)) /\ ((0 <= (compR c s2.1.1 s3.1.1)) /\ (((compR c s2.1.1 s3.1.1) < (((List.length (List.getD c.2.2.2.2 s1.1.1.toNat [])) : Nat) : Int)) /\ (0 <= s1.1.1))))) /\ (cnd ((decide (0 <= (compR c s2.1.1 s3.1.1))) && ((compR c (compR c s1.1.1 s2.1.1) s3.1.1) != (compR c s1.1.1 (compR c s2.1.1 s3.1.1)))) (K (2, (s1.1.1, (s2.1.1, (s3.1.1, ()))))) ((inK .i64 (s3.1.1 + 1)) /\ (next3 (((s3.1.1 + 1), ()), ())))))))))))) (k ((), ())))))) ((0, ()), ()))))))))) ((inK .i64 (s1.1.1 + 1)) /\ (next1 (((s1.1.1 + 1), ()), ()))))))) ((0, ()), ())) (K (0, (0, (0, (0, ()))))))))) ((0, ()), ())))))) ((0, ()), ()))
theorem w_impl_Category_fault (x : denL c_impl_Category_fault.args) (K : Int × Int × Int × Int × Unit -> Prop) : evF tab ph_impl_Category_fault (cutL [(5, 38)]) Try.f109 (bodyOf Try.f109) an_impl_Category_fault c_impl_Category_fault x K = W_impl_Category_fault x.1 K := by kernel_rfl
theorem k_impl_Category_fault : okC Try.f109.ntmps (cutL [(5, 38)]) (bodyOf Try.f109) = true := by kernel_rfl
theorem m_impl_Category_fault (c : CategoryD) (hok : allP (okL c_impl_Category_fault.args (c, ()))) (hpre : allP (c_impl_Category_fault.pre (c, ()))) : W_impl_Category_fault c (fun r => r = c_impl_Category_fault.res (c, ())) := by
 simp only [c_impl_Category_fault, okL, T.oks, T.ok, ap, allP, true_and, and_true, implies_true] at hok hpre
 try dsimp only [T.den] at hok
 try dsimp only [T.den] at hpre
 unfold W_impl_Category_fault
 have S : ShapeP c := hpre
 have hlt := S.lt
 have hli := S.li
 have hlc := S.lc
 have hmm := S.m
 have resq : ∀ a b d e, faultR c = (a, b, d, e) -> (a, b, d, e, ()) = c_impl_Category_fault.res (c, ()) := fun a b d e h => by simp only [c_impl_Category_fault, h]
 refine loop_ix (n := c.2.1.length) (fun f => scanR (faultI c) c.2.1.length 0 = scanR (faultI c) ((c.2.1.length : Int) - f).toNat f) (by omega) scan_0 ?_ ?_
 ·intro f next h0 h1 hP hn hin
  try dsimp only
  obtain ⟨a1, a2, a3, a4⟩ := S.frm h0 h1
  obtain ⟨b1, b2, _, _⟩ := S.idn a1 a2
  obtain ⟨d1, d2, _, _⟩ := S.idn a3 a4
  have r1 := S.row _ b1 b2
  have r2 := S.row f h0 h1
  refine cnd_d (fun _ => ⟨h0, h1, by omega, by omega, by omega, by omega, h0, by omega, fun _ => by omega, fun _ => by omega, fun _ => by omega, cnd_of (fun hx => resq _ _ _ _ ?_) (fun hx => ⟨by rw [inK64]; (try dsimp only); omega, hn ?_⟩)⟩) (fun h => absurd h1 h)
  ·have : faultI c f = some (1, f, 0, 0) := by unfold faultI; rw [if_pos]; simpa using hx
   unfold faultR; rw [hP, scan_s h1 this]; rfl
  ·have : faultI c f = none := by unfold faultI; rw [if_neg]; simpa using hx
   rw [hP, scan_c h1 this]
 intro next hI hin
 rw [scan_n] at hI
 refine cnd_d (fun h => absurd h (by dsimp only; omega)) (fun _ => ?_)
 have hF : faultR c = orR (scanR (faultF c) c.2.1.length 0) (0, 0, 0, 0) := by unfold faultR; rw [hI]; rfl
 refine loop_ix (n := c.2.1.length) (fun f => scanR (faultF c) c.2.1.length 0 = scanR (faultF c) ((c.2.1.length : Int) - f).toNat f) (by omega) scan_0 ?_ ?_
 ·intro f next h0 h1 hP hn hin
  try dsimp only
  refine cnd_d (fun _ => ?_) (fun h => absurd h1 h)
  have r1 := S.row f h0 h1
  refine loop_ix (n := c.2.1.length) (fun g => faultF c f = scanR (faultG c f) ((c.2.1.length : Int) - g).toNat g) (by omega) scan_0 ?_ ?_
  ·intro g next3 g0 g1 hP3 hn3 hin3
   try dsimp only
   refine cnd_d (fun _ => ?_) (fun h => absurd g1 h)
   have r2 := S.row g g0 g1
   refine join_of (fun _ => faultG c f g = none) (fun _ hG => ⟨by rw [inK64]; (try dsimp only); omega, hn3 (by rw [hP3, scan_c g1 hG])⟩) (fun k hk => ?_)
   have hk' := hk ((), ())
   refine ⟨by omega, by omega, by omega, by omega, cnd_d (fun hx => hk' ?_) (fun hx => ?_)⟩
   ·unfold faultG; rw [if_neg]; intro e; have := (S.comp h0 h1 g0 g1).2 e; omega
   have hfg := (S.comp h0 h1 g0 g1).1 (by omega)
   obtain ⟨y1, y2, _, _⟩ := S.yes h0 h1 g0 g1 hfg
   refine loop_ix (n := c.2.1.length) (fun h => faultG c f g = scanR (faultH c f g) ((c.2.1.length : Int) - h).toNat h) (by omega) (by unfold faultG; rw [if_pos hfg]; exact scan_0) ?_ ?_
   ·intro h next4 i0 i1 hP4 hn4 hin4
    try dsimp only
    refine cnd_d (fun _ => ?_) (fun h => absurd i1 h)
    have r3 := S.row _ y1 y2
    have cgh := S.comp g0 g1 i0 i1
    have ygh := @ShapeP.yes c S g h g0 g1 i0 i1
    refine ⟨by omega, by omega, by omega, by omega, fun _ => by omega, fun _ => by omega, fun _ => by omega, fun he => ?_, cnd_of (fun hx => resq _ _ _ _ ?_) (fun hx => ⟨by rw [inK64]; (try dsimp only); omega, hn4 ?_⟩)⟩
    ·have := ygh (cgh.1 (by simpa using he)); omega
    ·have : faultH c f g h = some (2, f, g, h) := by unfold faultH; rw [if_pos]; rw [← cgh]; simpa using hx
     have e1 : faultG c f g = some (2, f, g, h) := by rw [hP4, scan_s i1 this]
     have e2 : faultF c f = some (2, f, g, h) := by rw [hP3, scan_s g1 e1]
     rw [hF, hP, scan_s h1 e2]; rfl
    ·have : faultH c f g h = none := by unfold faultH; rw [if_neg]; rw [← cgh]; simpa using hx
     rw [hP4, scan_c i1 this]
   ·intro next4 hP4 hin4
    rw [scan_n] at hP4
    exact cnd_d (fun h => absurd h (by dsimp only; omega)) (fun _ => hk' hP4)
  ·intro next3 hP3 hin3
   rw [scan_n] at hP3
   exact cnd_d (fun h => absurd h (by dsimp only; omega)) (fun _ => ⟨by rw [inK64]; (try dsimp only); omega, hn (by rw [hP, scan_c h1 hP3])⟩)
 ·intro next2 hP2 hin2
  rw [scan_n] at hP2
  refine cnd_d (fun h => absurd h (by dsimp only; omega)) (fun _ => resq _ _ _ _ ?_)
  rw [hF, hP2]; rfl
theorem ct_impl_Category_fault : CtOk Try.prog 109 c_impl_Category_fault :=
 ct_by (Φ := ph_impl_Category_fault) (good_cons ct_impl_Category_arrows (good_cons ct_impl_Category_then good_nil)) tab_ok (by kernel_rfl) (fn := Try.f109) (c := bodyOf Try.f109) (by kernel_rfl) (by kernel_rfl) (by kernel_rfl) c_impl_Category_fault rfl an_impl_Category_fault (cutL [(5, 38)]) (by kernel_rfl) (by kernel_rfl) k_impl_Category_fault (by decide) (fun x K => W_impl_Category_fault x.1 K) w_impl_Category_fault (fun x h1 h2 => m_impl_Category_fault x.1 h1 h2)
def catR (c : CategoryD) : Bool := shapeR c && (faultR c).1 == 0
def c_impl_Category_isCategory : Ct := ⟨[(.pt CategoryT)], [false], fun x => [], [(false, (.fz .bool))], fun x => (catR x.1, ()), false, none⟩
def ph_impl_Category_isCategory : FuncId -> Option Ct := lkp [(109, c_impl_Category_fault), (108, c_impl_Category_isShape)]
def W_impl_Category_isCategory (c : CategoryD) (K : Bool × Unit -> Prop) : Prop := (cnd (!(shapeR c)) (K (false, ())) ((ShapeP c) /\ (K (((faultR c).1 == 0), ()))))
theorem w_impl_Category_isCategory (x : denL c_impl_Category_isCategory.args) (K : Bool × Unit -> Prop) : evF tab ph_impl_Category_isCategory (cutL []) Try.f48 (bodyOf Try.f48) .n c_impl_Category_isCategory x K = W_impl_Category_isCategory x.1 K := by kernel_rfl
theorem k_impl_Category_isCategory : okC Try.f48.ntmps (cutL []) (bodyOf Try.f48) = true := by kernel_rfl
theorem m_impl_Category_isCategory (c : CategoryD) (hok : allP (okL c_impl_Category_isCategory.args (c, ()))) (hpre : allP (c_impl_Category_isCategory.pre (c, ()))) : W_impl_Category_isCategory c (fun r => r = c_impl_Category_isCategory.res (c, ())) := by
 simp only [c_impl_Category_isCategory, okL, T.oks, T.ok, ap, allP, true_and, and_true, implies_true] at hok hpre
 try dsimp only [T.den] at hok
 try dsimp only [T.den] at hpre
 unfold W_impl_Category_isCategory
 simp only [c_impl_Category_isCategory, catR]
 have := @shape_iff c
 grind [cnd, nb_eq, inK64]
theorem ct_impl_Category_isCategory : CtOk Try.prog 48 c_impl_Category_isCategory :=
 ct_by (Φ := ph_impl_Category_isCategory) (good_cons ct_impl_Category_fault (good_cons ct_impl_Category_isShape good_nil)) tab_ok (by kernel_rfl) (fn := Try.f48) (c := bodyOf Try.f48) (by kernel_rfl) (by kernel_rfl) (by kernel_rfl) c_impl_Category_isCategory rfl .n (cutL []) (by kernel_rfl) (by kernel_rfl) k_impl_Category_isCategory (by decide) (fun x K => W_impl_Category_isCategory x.1 K) w_impl_Category_isCategory (fun x h1 h2 => m_impl_Category_isCategory x.1 h1 h2)
def idR (c : CategoryD) (f : Int) : Bool := c.2.2.2.1.getD (c.2.1.getD f.toNat 0).toNat 0 == f
def c_impl_Category_isIdentity : Ct := ⟨[(.pt CategoryT), (.int .i64)], [false, false], fun x => [ShapeP x.1, 0 <= x.2.1, x.2.1 < x.1.2.1.length], [(false, (.fz .bool))], fun x => (idR x.1 x.2.1, ()), false, none⟩
def W_impl_Category_isIdentity (c : CategoryD) (f : Int) (K : Bool × Unit -> Prop) : Prop := ((0 <= f) /\ ((f < ((c.2.1.length : Nat) : Int)) /\ ((0 <= (List.getD c.2.1 f.toNat 0)) /\ (((List.getD c.2.1 f.toNat 0) < ((c.2.2.2.1.length : Nat) : Int)) /\ (K (((List.getD c.2.2.2.1 (Int.toNat (List.getD c.2.1 f.toNat 0)) 0) == f), ()))))))
theorem w_impl_Category_isIdentity (x : denL c_impl_Category_isIdentity.args) (K : Bool × Unit -> Prop) : evF tab (lkp []) (cutL [(1, 16)]) Try.f68 (bodyOf Try.f68) .n c_impl_Category_isIdentity x K = W_impl_Category_isIdentity x.1 x.2.1 K := by kernel_rfl
theorem k_impl_Category_isIdentity : okC Try.f68.ntmps (cutL [(1, 16)]) (bodyOf Try.f68) = true := by kernel_rfl
theorem m_impl_Category_isIdentity (c : CategoryD) (f : Int) (hok : allP (okL c_impl_Category_isIdentity.args (c, f, ()))) (hpre : allP (c_impl_Category_isIdentity.pre (c, f, ()))) : W_impl_Category_isIdentity c f (fun r => r = c_impl_Category_isIdentity.res (c, f, ())) := by
 simp only [c_impl_Category_isIdentity, okL, T.oks, T.ok, ap, allP, true_and, and_true, implies_true] at hok hpre
 try dsimp only [T.den] at hok
 try dsimp only [T.den] at hpre
 unfold W_impl_Category_isIdentity
 have S : ShapeP c := hpre.1
 have a := S.frm hpre.2.1 hpre.2.2
 have := S.li
 exact ⟨hpre.2.1, hpre.2.2, a.1, by omega, rfl⟩
theorem ct_impl_Category_isIdentity : CtOk Try.prog 68 c_impl_Category_isIdentity :=
 ct_by (Φ := lkp []) good_nil tab_ok (by kernel_rfl) (fn := Try.f68) (c := bodyOf Try.f68) (by kernel_rfl) (by kernel_rfl) (by kernel_rfl) c_impl_Category_isIdentity rfl .n (cutL [(1, 16)]) (by kernel_rfl) (by kernel_rfl) k_impl_Category_isIdentity (by decide) (fun x K => W_impl_Category_isIdentity x.1 x.2.1 K) w_impl_Category_isIdentity (fun x h1 h2 => m_impl_Category_isIdentity x.1 x.2.1 h1 h2)
theorem cat_shape {c : CategoryD} (h : catR c = true) : ShapeP c := by
 simp only [catR, Bool.and_eq_true] at h; exact shape_iff.1 h.1
def outR (c : CategoryD) (x : Int) : List Int := selR c.2.1.length fun f => c.2.1.getD f.toNat 0 == x
def c_impl_Category_outOf : Ct := ⟨[(.pt CategoryT), (.int .i64)], [false, false], fun x => [x.1.2.1.length <= 40], [(false, (.sl (.fz (.int .i64))))], fun x => (outR x.1 x.2.1, ()), false, none⟩
def an_impl_Category_outOf : Ann := (.s .n (.s .n (.s (.s .n (.l [(5, (.ref 800005 [])), (14, (.d (.int .i64)))] [(800005, (.sl (.fz (.int .i64))))] [1, 12, 13] (.s .n (.s .n (.s (.s .n (.s .n (.j [(5, (.ref 800005 []))] [(800005, (.sl (.fz (.int .i64))))] [1, 12, 13, 14] .n))) .n))))) .n)))
def W_impl_Category_outOf (c : CategoryD) (x : Int) (K : (List Int) × Unit -> Prop) : Prop := (loopW (S := ((Unit × (Int × Unit)) × ((List Int) × Unit))) (fun s => (fun next => ((inK .i64 s.1.2.1) -> ((T.ok (.sl (.int .i64)) s.2.1) -> (cnd (decide (s.1.2.1 < ((c.2.1.length : Nat) : Int))) ((0 <= s.1.2.1) /\ ((s.1.2.1 < ((c.2.1.length : Nat) : Int)) /\ (joinW (S := ((Unit × Unit) × ((List Int) × Unit))) (fun s1 => ((T.ok (.sl (.int .i64)) s1.2.1) -> ((inK .i64 (s.1.2.1 + 1)) /\ (next (((), ((s.1.2.1 + 1), ())), (s1.2.1, ())))))) (fun k => (cnd ((List.getD c.2.1 s.1.2.1.toNat 0) == x) ((room s.2.1.length (List.length (s.1.2.1 :: [])) 8) /\ (k (((), ()), ((s.2.1 ++ (s.1.2.1 :: [])), ())))) (k (((), ()), (s.2.1, ())))))))) (K (s.2.1, ()))))))) (((), (0, ())), ([], ())))
theorem w_impl_Category_outOf (x : denL c_impl_Category_outOf.args) (K : (List Int) × Unit -> Prop) : evF tab (lkp []) (cutL []) Try.f128 (bodyOf Try.f128) an_impl_Category_outOf c_impl_Category_outOf x K = W_impl_Category_outOf x.1 x.2.1 K := by kernel_rfl
theorem k_impl_Category_outOf : okC Try.f128.ntmps (cutL []) (bodyOf Try.f128) = true := by kernel_rfl
theorem m_impl_Category_outOf (c : CategoryD) (x : Int) (hok : allP (okL c_impl_Category_outOf.args (c, x, ()))) (hpre : allP (c_impl_Category_outOf.pre (c, x, ()))) : W_impl_Category_outOf c x (fun r => r = c_impl_Category_outOf.res (c, x, ())) := by
 simp only [c_impl_Category_outOf, okL, T.oks, T.ok, ap, allP, true_and, and_true, implies_true] at hok hpre
 try dsimp only [T.den] at hok
 try dsimp only [T.den] at hpre
 unfold W_impl_Category_outOf
 have hm : c.2.1.length <= 40 := hpre
 refine loop_of (fun (s : ((Unit × (Int × Unit)) × ((List Int) × Unit))) => 0 <= s.1.2.1 /\ s.1.2.1 <= c.2.1.length /\ s.2.1 = selR s.1.2.1.toNat fun f => c.2.1.getD f.toNat 0 == x) (fun (s : ((Unit × (Int × Unit)) × ((List Int) × Unit))) => (c.2.1.length - s.1.2.1).toNat) ?_ ⟨by simp, by simp, rfl⟩
 rintro ⟨⟨_, i, _⟩, l, _⟩ next ⟨h0, h1, h2⟩ hn hin hl
 try dsimp only at h0 h1 h2 hn ⊢
 subst h2
 refine cnd_d (fun hc => ⟨h0, hc, join_of (fun s1 => s1.2.1 = selR (i + 1).toNat fun f => c.2.1.getD f.toNat 0 == x) (fun s1 hs _ => ⟨by rw [inK64]; (try dsimp only); omega, hn _ ⟨(by first | omega | (dsimp only; omega)), (by first | omega | (dsimp only; omega)), hs⟩ (by first | omega | (dsimp only; omega))⟩) (fun k hk => cnd_of (fun hx => ⟨?_, hk _ ?_⟩) (fun hx => hk _ ?_))⟩) (fun hc => ?_)
 ·have := sel_len (p := fun f => c.2.1.getD f.toNat 0 == x) i.toNat
  unfold room
  rw [nb_eq]
  have h3 : (i :: ([] : List Int)).length = 1 := rfl
  rw [h3]
  omega
 ·exact (sel_t h0 hx).symm
 ·exact (sel_f h0 hx).symm
 ·have e : i.toNat = c.2.1.length := by omega
  simp only [c_impl_Category_outOf, outR]
  rw [e]
theorem ct_impl_Category_outOf : CtOk Try.prog 128 c_impl_Category_outOf :=
 ct_by (Φ := lkp []) good_nil tab_ok (by kernel_rfl) (fn := Try.f128) (c := bodyOf Try.f128) (by kernel_rfl) (by kernel_rfl) (by kernel_rfl) c_impl_Category_outOf rfl an_impl_Category_outOf (cutL []) (by kernel_rfl) (by kernel_rfl) k_impl_Category_outOf (by decide) (fun x K => W_impl_Category_outOf x.1 x.2.1 K) w_impl_Category_outOf (fun x h1 h2 => m_impl_Category_outOf x.1 x.2.1 h1 h2)
def squareR (t : List (List Int)) (b : Int) : Bool := allB t.length fun i => decide ((t.getD i.toNat []).length = t.length) && withinR (t.getD i.toNat []) b
def tabR (t : List (List Int)) (n : Int) : Bool := decide ((t.length : Int) = n) && squareR t n
def atR (t : List (List Int)) (i j : Int) : Int := (t.getD i.toNat []).getD j.toNat 0
theorem square_iff {t : List (List Int)} {b : Int} : squareR t b = true ↔ ∀ i : Int, 0 <= i -> i < t.length -> (t.getD i.toNat []).length = t.length /\ withinR (t.getD i.toNat []) b = true := by
 simp only [squareR, allB_iff, Bool.and_eq_true, decide_eq_true_eq]
theorem tab_at {t : List (List Int)} {n : Int} (h : tabR t n = true) : (t.length : Int) = n /\ (∀ i : Int, 0 <= i -> i < n -> ((t.getD i.toNat []).length : Int) = n) /\ ∀ i j : Int, 0 <= i -> i < n -> 0 <= j -> j < n -> 0 <= atR t i j /\ atR t i j < n := by
 simp only [tabR, Bool.and_eq_true, decide_eq_true_eq, square_iff] at h
 refine ⟨h.1, fun i h0 h1 => ?_, fun i j h0 h1 g0 g1 => ?_⟩
 ·have := (h.2 i h0 (by omega)).1; omega
 ·obtain ⟨a, b⟩ := h.2 i h0 (by omega)
  exact within_iff.1 b j g0 (by omega)
def c_impl_isTable : Ct := ⟨[(.sl (.sl (.int .i64))), (.int .i64)], [false, false], fun x => [inK .i64 (x.2.1 - 1)], [(false, (.fz .bool))], fun x => (tabR x.1 x.2.1, ()), false, none⟩
def an_impl_isTable : Ann := (.s .n (.s .n (.s (.s .n (.l [(13, (.d (.int .i64)))] [] [1, 11, 12] .n)) .n)))
def W_impl_isTable (list : List (List Int)) (n : Int) (K : Bool × Unit -> Prop) : Prop := (cnd (((list.length : Nat) : Int) != n) (K (false, ())) (loopW (S := ((Int × Unit) × Unit)) (fun s => (fun next => ((inK .i64 s.1.1) -> (cnd (decide (s.1.1 < ((list.length : Nat) : Int))) ((0 <= s.1.1) /\ ((s.1.1 < ((list.length : Nat) : Int)) /\ (((((((List.length (List.getD list s.1.1.toNat [])) : Nat) : Int) != n) = false) -> (inK .i64 (n - 1))) /\ (cnd (((((List.length (List.getD list s.1.1.toNat [])) : Nat) : Int) != n) || (!(withinR (List.getD list s.1.1.toNat []) n))) (K (false, ())) ((inK .i64 (s.1.1 + 1)) /\ (next (((s.1.1 + 1), ()), ()))))))) (K (true, ())))))) ((0, ()), ())))
theorem w_impl_isTable (x : denL c_impl_isTable.args) (K : Bool × Unit -> Prop) : evF tab (lkp [(39, c_impl_within)]) (cutL []) Try.f98 (bodyOf Try.f98) an_impl_isTable c_impl_isTable x K = W_impl_isTable x.1 x.2.1 K := by kernel_rfl
theorem k_impl_isTable : okC Try.f98.ntmps (cutL []) (bodyOf Try.f98) = true := by kernel_rfl
theorem m_impl_isTable (list : List (List Int)) (n : Int) (hok : allP (okL c_impl_isTable.args (list, n, ()))) (hpre : allP (c_impl_isTable.pre (list, n, ()))) : W_impl_isTable list n (fun r => r = c_impl_isTable.res (list, n, ())) := by
 simp only [c_impl_isTable, okL, T.oks, T.ok, ap, allP, true_and, and_true, implies_true] at hok hpre
 try dsimp only [T.den] at hok
 try dsimp only [T.den] at hpre
 unfold W_impl_isTable
 have hl : list.length <= 140737488355328 := by simp only [nb_eq] at hok; omega
 have bad : ¬ (tabR list n = true) -> (false, ()) = c_impl_isTable.res (list, n, ()) := fun h => by
  simp only [c_impl_isTable]
  cases hs : tabR list n with
  | false => rfl
  | true => exact absurd hs h
 have hti : tabR list n = true ↔ (list.length : Int) = n /\ ∀ i : Int, 0 <= i -> i < list.length -> (list.getD i.toNat []).length = list.length /\ withinR (list.getD i.toNat []) n = true := by
  simp only [tabR, Bool.and_eq_true, decide_eq_true_eq, square_iff]
 refine cnd_of (fun hc => bad fun h => ?_) (fun hc => ?_)
 ·rw [(hti.1 h).1] at hc; simp at hc
 have hc : (list.length : Int) = n := by simpa using hc
 refine loop_ix (n := list.length) (fun i => ∀ j : Int, 0 <= j -> j < i -> (list.getD j.toNat []).length = list.length /\ withinR (list.getD j.toNat []) n = true) (by omega) (by intro y h0 h1; omega) ?_ ?_
 ·intro i next h0 h1 hP hn hin
  try dsimp only
  refine cnd_d (fun _ => ⟨h0, h1, fun _ => hpre, cnd_of (fun hx => bad fun h => ?_) (fun hx => ⟨by rw [inK64]; (try dsimp only); omega, hn fun j j0 j1 => ?_⟩)⟩) (fun h => absurd h1 h)
  ·have := (hti.1 h).2 i h0 h1
   rw [this.1, this.2, hc] at hx; simp at hx
  ·by_cases e : j = i
   ·subst e
    simp only [Bool.or_eq_false_iff, Bool.not_eq_false', bne_eq_false_iff_eq] at hx
    exact ⟨by omega, hx.2⟩
   ·exact hP j j0 (by omega)
 ·intro next hP hin
  refine cnd_d (fun h => absurd h (by dsimp only; omega)) (fun _ => ?_)
  simp only [c_impl_isTable]
  rw [hti.2 ⟨hc, hP⟩]
theorem ct_impl_isTable : CtOk Try.prog 98 c_impl_isTable :=
 ct_by (Φ := lkp [(39, c_impl_within)]) (good_cons ct_impl_within good_nil) tab_ok (by kernel_rfl) (fn := Try.f98) (c := bodyOf Try.f98) (by kernel_rfl) (by kernel_rfl) (by kernel_rfl) c_impl_isTable rfl an_impl_isTable (cutL []) (by kernel_rfl) (by kernel_rfl) k_impl_isTable (by decide) (fun x K => W_impl_isTable x.1 x.2.1 K) w_impl_isTable (fun x h1 h2 => m_impl_isTable x.1 x.2.1 h1 h2)
def endsR (m : MonoidalD) : Bool := allB m.1.2.1.length fun f => allB m.1.2.1.length fun g =>
 decide (m.1.2.1.getD (atR m.2.2.2 f g).toNat 0 = atR m.2.2.1 (m.1.2.1.getD f.toNat 0) (m.1.2.1.getD g.toNat 0)) && decide (m.1.2.2.1.getD (atR m.2.2.2 f g).toNat 0 = atR m.2.2.1 (m.1.2.2.1.getD f.toNat 0) (m.1.2.2.1.getD g.toNat 0))
theorem ends_iff {m : MonoidalD} : endsR m = true ↔ ∀ f : Int, 0 <= f -> f < m.1.2.1.length -> ∀ g : Int, 0 <= g -> g < m.1.2.1.length ->
  m.1.2.1.getD (atR m.2.2.2 f g).toNat 0 = atR m.2.2.1 (m.1.2.1.getD f.toNat 0) (m.1.2.1.getD g.toNat 0) /\ m.1.2.2.1.getD (atR m.2.2.2 f g).toNat 0 = atR m.2.2.1 (m.1.2.2.1.getD f.toNat 0) (m.1.2.2.1.getD g.toNat 0) := by
 simp only [endsR, allB_iff, Bool.and_eq_true, decide_eq_true_eq]
def c_spec_l35Ends : Ct := ⟨[MonoidalT], [true], fun x => [ShapeP x.1.1, tabR x.1.2.2.1 x.1.1.1 = true, tabR x.1.2.2.2 x.1.1.2.1.length = true], [(false, (.fz .bool))], fun x => (endsR x.1, ()), false, none⟩
def an_spec_l35Ends : Ann := (.s .n (.s .n (.s (.s .n (.l [(3, (.ad 3 [.de])), (4, (.d (.int .i64)))] [(3, (.pt (.fz (.p (.int .i64) (.p (.sl (.int .i64)) (.p (.sl (.int .i64)) (.p (.sl (.int .i64)) (.sl (.sl (.int .i64))))))))))] [1] (.s .n (.s (.s .n (.l [(3, (.ad 3 [.de])), (5, (.d (.int .i64)))] [(3, (.pt (.fz (.p (.int .i64) (.p (.sl (.int .i64)) (.p (.sl (.int .i64)) (.p (.sl (.int .i64)) (.sl (.sl (.int .i64))))))))))] [1, 4] .n)) .n)))) .n)))
def W_spec_l35Ends (m : MonoidalD) (K : Bool × Unit -> Prop) : Prop := (loopW (S := ((Unit × (Int × Unit)) × ((Int × ((List Int) × ((List Int) × ((List Int) × (List (List Int)))))) × Unit))) (fun s => (fun next => ((inK .i64 s.1.2.1) -> ((inK .i64 s.2.1.1) -> ((T.ok (.sl (.int .i64)) s.2.1.2.1) -> ((T.ok (.sl (.int .i64)) s.2.1.2.2.1) -> ((T.ok (.sl (.int .i64)) s.2.1.2.2.2.1) -> ((T.ok (.sl (.sl (.int .i64))) s.2.1.2.2.2.2) -> (cnd (decide (s.1.2.1 < ((s.2.1.2.1.length : Nat) : Int))) (loopW (S := ((Unit × (Int × Unit)) × ((Int × ((List Int) × ((List Int) × ((List Int) × (List (List Int)))))) × Unit))) (fun s1 => (fun next1 => ((inK .i64 s1.1.2.1) -> ((inK .i64 s1.2.1.1) -> ((T.ok (.sl (.int .i64)) s1.2.1.2.1) -> ((T.ok (.sl (.int .i64)) s1.2.1.2.2.1) -> ((T.ok (.sl (.int .i64)) s1.2.1.2.2.2.1) -> ((T.ok (.sl (.sl (.int .i64))) s1.2.1.2.2.2.2) -> (cnd (decide (s1.1.2.1 < ((s1.2.1.2.1.length : Nat) : Int))) ((0 <= s.1.2.1) /\ ((s.1.2.1 < ((m.2.2.2.length : Nat) : Int)) /\ ((0 <= s1.1.2.1) /\ ((s1.1.2.1 < (((List.length (List.getD m.2.2.2 s.1.2.1.toNat [])) : Nat) : Int)) /\ ((0 <= (List.getD (List.getD m.2.2.2 s.1.2.1.toNat []) s1.1.2.1.toNat 0)) /\ (((List.getD (List.getD m.2.2.2 s.1.2.1.toNat []) s1.1.2.1.toNat 0) < ((s1.2.1.2.1.length : Nat) : Int)) /\ ((0 <= s.1.2.1) /\ ((s.1.2.1 < ((s1.2.1.2.1.length : Nat) : Int)) /\ ((0 <= (List.getD s1.2.1.2.1 s.1.2.1.toNat 0)) /\ (((List.getD s1.2.1.2.1 s.1.2.1.toNat 0) < ((m.2.2.1.length : Nat) : Int)) /\ ((0 <= s1.1.2.1) /\ ((s1.1.2.1 < ((s1.2.1.2.1.length : Nat) : Int)) /\ ((0 <= (List.getD s1.2.1.2.1 s1.1.2.1.toNat 0)) /\ (((List.getD s1.2.1.2.1 s1.1.2.1.toNat 0) < (((List.length (List.getD m.2.2.1 (Int.toNat (List.getD s1.2.1.2.1 s.1.2.1.toNat 0)) [])) : Nat) : Int)) /\ (((((List.getD s1.2.1.2.1 (Int.toNat (List.getD (List.getD m.2.2.2 s.1.2.1.toNat []) s1.1.2.1.toNat 0)) 0) != (List.getD (List.getD m.2.2.1 (Int.toNat (List.getD s1.2.1.2.1 s.1.2.1.toNat 0)) []) (Int.toNat (List.getD s1.2.1.2.1 s1.1.2.1.toNat 0)) 0)) = false) -> (((List.getD (List.getD m.2.2.2 s.1.2.1.toNat []) s1.1.2.1.toNat 0) < ((s1.2.1.2.2.1.length : Nat) : Int)) /\ (0 <= (List.getD (List.getD m.2.2.2 s.1.2.1.toNat []) s1.1.2.1.toNat 0)))) /\ (((((List.getD s1.2.1.2.1 (Int.toNat (List.getD (List.getD m.2.2.2 s.1.2.1.toNat []) s1.1.2.1.toNat 0)) 0) != (List.getD (List.getD m.2.2.1 (Int.toNat (List.getD s1.2.1.2.1 s.1.2.1.toNat 0)) []) (Int.toNat (List.getD s1.2.1.2.1 s1.1.2.1.toNat 0)) 0)) = false) -> ((s.1.2.1 < ((s1.2.1.2.2.1.length : Nat) : Int)) /\ (0 <= s.1.2.1))) /\ (((((List.getD s1.2.1.2.1 (Int.toNat (List.getD (List.getD m.2.2.2 s.1.2.1.toNat []) s1.1.2.1.toNat 0)) 0) != (List.getD (List.getD m.2.2.1 (Int.toNat (List.getD s1.2.1.2.1 s.1.2.1.toNat 0)) []) (Int.toNat (List.getD s1.2.1.2.1 s1.1.2.1.toNat 0)) 0)) = false) -> (((List.getD s1.2.1.2.2.1 s.1.2.1.toNat 0) < ((m.2.2.1.length : Nat) : Int)) /\ (0 <= (List.getD s1.2.1.2.2.1 s.1.2.1.toNat 0)))) /\ (((((List.getD s1.2.1.2.1 (Int.toNat (List.getD (List.getD m.2.2.2 s.1.2.1.toNat []) s1.1.2.1.toNat 0)) 0) != (List.getD (List.getD m.2.2.1 (Int.toNat (List.getD s1.2.1.2.1 s.1.2.1.toNat 0)) []) (Int.toNat (List.getD s1.2.1.2.1 s1.1.2.1.toNat 0)) 0)) = false) -> ((s1.1.2.1 < ((s1.2.1.2.2.1.length : Nat) : Int)) /\ (0 <= s1.1.2.1))) /\ (((((List.getD s1.2.1.2.1 (Int.toNat (List.getD (List.getD m.2.2.2 s.1.2.1.toNat []) s1.1.2.1.toNat 0)) 0) != (List.getD (List.getD m.2.2.1 (Int.toNat (List.getD s1.2.1.2.1 s.1.2.1.toNat 0)) []) (Int.toNat (List.getD s1.2.1.2.1 s1.1.2.1.toNat 0)) 0)) = false) -> (((List.getD s1.2.1.2.2.1 s1.1.2.1.toNat 0) < (((List.length (List.getD m.2.2.1 (Int.toNat (List.getD s1.2.1.2.2.1 s.1.2.1.toNat 0)) [])) : Nat) : Int)) /\ (0 <= (List.getD s1.2.1.2.2.1 s1.1.2.1.toNat 0)))) /\ (cnd (((List.getD s1.2.1.2.1 (Int.toNat (List.getD (List.getD m.2.2.2 s.1.2.1.toNat []) s1.1.2.1.toNat 0)) 0) != (List.getD (List.getD m.2.2.1 (Int.toNat (List.getD s1.2.1.2.1 s.1.2.1.toNat 0)) []) (Int.toNat (List.getD s1.2.1.2.1 s1.1.2.1.toNat 0)) 0)) || ((List.getD s1.2.1.2.2.1 (Int.toNat (List.getD (List.getD m.2.2.2 s.1.2.1.toNat []) s1.1.2.1.toNat 0)) 0) != (List.getD (List.getD m.2.2.1 (Int.toNat (List.getD s1.2.1.2.2.1 s.1.2.1.toNat 0)) []) (Int.toNat (List.getD s1.2.1.2.2.1 s1.1.2.1.toNat 0)) 0))) (K (false, ())) ((inK .i64 (s1.1.2.1 + 1)) /\ (next1 (((), ((s1.1.2.1 + 1), ())), (s1.2.1, ())))))))))))))))))))))))) ((inK .i64 (s.1.2.1 + 1)) /\ (next (((), ((s.1.2.1 + 1), ())), (s1.2.1, ()))))))))))))) (((), (0, ())), (s.2.1, ()))) (K (true, ()))))))))))) (((), (0, ())), (m.1, ())))
theorem w_spec_l35Ends (x : denL c_spec_l35Ends.args) (K : Bool × Unit -> Prop) : evF tab (lkp []) (cutL [(9, 46)]) Try.f104 (bodyOf Try.f104) an_spec_l35Ends c_spec_l35Ends x K = W_spec_l35Ends x.1 K := by kernel_rfl
theorem k_spec_l35Ends : okC Try.f104.ntmps (cutL [(9, 46)]) (bodyOf Try.f104) = true := by kernel_rfl
theorem m_spec_l35Ends (m : MonoidalD) (hok : allP (okL c_spec_l35Ends.args (m, ()))) (hpre : allP (c_spec_l35Ends.pre (m, ()))) : W_spec_l35Ends m (fun r => r = c_spec_l35Ends.res (m, ())) := by
 simp only [c_spec_l35Ends, okL, T.oks, T.ok, ap, allP, true_and, and_true, implies_true] at hok hpre
 try dsimp only [T.den] at hok
 try dsimp only [T.den] at hpre
 unfold W_spec_l35Ends
 have S : ShapeP m.1 := hpre.1
 have O := tab_at hpre.2.1
 have A := tab_at hpre.2.2
 have hlt := S.lt
 have hmm := S.m
 have bad : ¬ (endsR m = true) -> (false, ()) = c_spec_l35Ends.res (m, ()) := fun h => by
  simp only [c_spec_l35Ends]
  cases hs : endsR m with
  | false => rfl
  | true => exact absurd hs h
 have hat : ∀ i j : Int, (m.2.2.2.getD i.toNat []).getD j.toNat 0 = atR m.2.2.2 i j := fun _ _ => rfl
 have hat2 : ∀ i j : Int, (m.2.2.1.getD i.toNat []).getD j.toNat 0 = atR m.2.2.1 i j := fun _ _ => rfl
 refine loop_ix1 (n := m.1.2.1.length) (fun f => ∀ f' : Int, 0 <= f' -> f' < f -> ∀ g : Int, 0 <= g -> g < m.1.2.1.length ->
  m.1.2.1.getD (atR m.2.2.2 f' g).toNat 0 = atR m.2.2.1 (m.1.2.1.getD f'.toNat 0) (m.1.2.1.getD g.toNat 0) /\ m.1.2.2.1.getD (atR m.2.2.2 f' g).toNat 0 = atR m.2.2.1 (m.1.2.2.1.getD f'.toNat 0) (m.1.2.2.1.getD g.toNat 0)) (by omega) (by intro y h0 h1; omega) ?_ ?_
 ·intro f next h0 h1 hP hn _ _ _ _ _ _
  try dsimp only
  have sf := S.frm h0 h1
  have rf := A.2.1 f h0 h1
  refine cnd_d (fun _ => ?_) (fun h => absurd h1 h)
  refine loop_ix1 (n := m.1.2.1.length) (fun g => ∀ g' : Int, 0 <= g' -> g' < g ->
   m.1.2.1.getD (atR m.2.2.2 f g').toNat 0 = atR m.2.2.1 (m.1.2.1.getD f.toNat 0) (m.1.2.1.getD g'.toNat 0) /\ m.1.2.2.1.getD (atR m.2.2.2 f g').toNat 0 = atR m.2.2.1 (m.1.2.2.1.getD f.toNat 0) (m.1.2.2.1.getD g'.toNat 0)) (by omega) (by intro y h0 h1; omega) ?_ ?_
  ·intro g next2 g0 g1 hP2 hn2 _ _ _ _ _ _
   try dsimp only
   simp only [hat, hat2]
   have sg := S.frm g0 g1
   have afg := A.2.2 f g h0 h1 g0 g1
   have r1 := O.2.1 _ sf.1 sf.2.1
   have r2 := O.2.1 _ sf.2.2.1 sf.2.2.2
   refine cnd_d (fun _ => ⟨h0, by omega, g0, by omega, afg.1, by omega, h0, h1, sf.1, by omega, g0, g1, sg.1, by omega, fun _ => by omega, fun _ => by omega, fun _ => by omega, fun _ => by omega, fun _ => by omega, cnd_of (fun hx => bad fun h => ?_) (fun hx => ⟨by rw [inK64]; (try dsimp only); omega, hn2 fun g' a0 a1 => ?_⟩)⟩) (fun h => absurd g1 h)
   ·have := ends_iff.1 h f h0 h1 g g0 g1
    rw [this.1, this.2] at hx; simp at hx
   ·by_cases e : g' = g
    ·rw [e]; simpa only [Bool.or_eq_false_iff, bne_eq_false_iff_eq] using hx
    ·exact hP2 g' a0 (by omega)
  ·intro next2 hP2 _ _ _ _ _ _
   refine cnd_d (fun h => absurd h (by dsimp only; omega)) (fun _ => ⟨by rw [inK64]; (try dsimp only); omega, hn fun f' a0 a1 => ?_⟩)
   by_cases e : f' = f
   ·rw [e]; exact hP2
   ·exact hP f' a0 (by omega)
 ·intro next hP _ _ _ _ _ _
  refine cnd_d (fun h => absurd h (by dsimp only; omega)) (fun _ => ?_)
  simp only [c_spec_l35Ends]
  rw [ends_iff.2 hP]
theorem ct_spec_l35Ends : CtOk Try.prog 104 c_spec_l35Ends :=
 ct_by (Φ := lkp []) good_nil tab_ok (by kernel_rfl) (fn := Try.f104) (c := bodyOf Try.f104) (by kernel_rfl) (by kernel_rfl) (by kernel_rfl) c_spec_l35Ends rfl an_spec_l35Ends (cutL [(9, 46)]) (by kernel_rfl) (by kernel_rfl) k_spec_l35Ends (by decide) (fun x K => W_spec_l35Ends x.1 K) w_spec_l35Ends (fun x h1 h2 => m_spec_l35Ends x.1 h1 h2)
def interR (m : MonoidalD) : Bool := allB m.1.2.1.length fun f => allB m.1.2.1.length fun h => decide (m.1.2.2.1.getD f.toNat 0 ≠ m.1.2.1.getD h.toNat 0) || allB m.1.2.1.length fun g => allB m.1.2.1.length fun k =>
 decide (m.1.2.2.1.getD g.toNat 0 ≠ m.1.2.1.getD k.toNat 0) || decide (atR m.2.2.2 (compR m.1 f h) (compR m.1 g k) = compR m.1 (atR m.2.2.2 f g) (atR m.2.2.2 h k))
theorem inter_iff {m : MonoidalD} : interR m = true ↔ ∀ f : Int, 0 <= f -> f < m.1.2.1.length -> ∀ h : Int, 0 <= h -> h < m.1.2.1.length -> m.1.2.2.1.getD f.toNat 0 = m.1.2.1.getD h.toNat 0 -> ∀ g : Int, 0 <= g -> g < m.1.2.1.length -> ∀ k : Int, 0 <= k -> k < m.1.2.1.length -> m.1.2.2.1.getD g.toNat 0 = m.1.2.1.getD k.toNat 0 ->
  atR m.2.2.2 (compR m.1 f h) (compR m.1 g k) = compR m.1 (atR m.2.2.2 f g) (atR m.2.2.2 h k) := by
 simp only [interR, allB_iff, Bool.or_eq_true, decide_eq_true_eq]
 constructor
 ·intro q f f0 f1 h h0 h1 e g g0 g1 k k0 k1 e2
  rcases q f f0 f1 h h0 h1 with a | a
  ·exact absurd e a
  rcases a g g0 g1 k k0 k1 with b | b
  ·exact absurd e2 b
  ·exact b
 ·intro q f f0 f1 h h0 h1
  by_cases e : m.1.2.2.1.getD f.toNat 0 = m.1.2.1.getD h.toNat 0
  ·refine .inr fun g g0 g1 k k0 k1 => ?_
   by_cases e2 : m.1.2.2.1.getD g.toNat 0 = m.1.2.1.getD k.toNat 0
   ·exact .inr (q f f0 f1 h h0 h1 e g g0 g1 k k0 k1 e2)
   ·exact .inl e2
  ·exact .inl e
theorem out_at {c : CategoryD} {x i : Int} (h0 : 0 <= i) (h1 : i < (outR c x).length) : 0 <= (outR c x).getD i.toNat 0 /\ (outR c x).getD i.toNat 0 < c.2.1.length /\ c.2.1.getD ((outR c x).getD i.toNat 0).toNat 0 = x := by
 have := getD_mem (outR c x) 0 h0 h1
 generalize (outR c x).getD i.toNat 0 = y at *
 unfold outR at this
 rw [sel_mem, beq_iff_eq] at this
 exact this
theorem out_all {c : CategoryD} {x : Int} {p : Int -> Prop} (h : ∀ i : Int, 0 <= i -> i < (outR c x).length -> p ((outR c x).getD i.toNat 0)) {y : Int} (y0 : 0 <= y) (y1 : y < c.2.1.length) (e : c.2.1.getD y.toNat 0 = x) : p y :=
 (all_ix (d := (0 : Int))).2 h y (by unfold outR; rw [sel_mem, beq_iff_eq]; exact ⟨y0, y1, e⟩)
theorem out_len {c : CategoryD} (S : ShapeP c) (x : Int) : (outR c x).length <= 40 := Nat.le_trans (sel_len _) S.m
def c_impl_Monoidal_interchanges : Ct := ⟨[(.pt MonoidalT)], [false], fun x => [ShapeP x.1.1, tabR x.1.2.2.1 x.1.1.1 = true, tabR x.1.2.2.2 x.1.1.2.1.length = true], [(false, (.fz .bool))], fun x => (interR x.1, ()), false, none⟩
def an_impl_Monoidal_interchanges : Ann := (.s .n (.s .n (.s (.s .n (.l [(18, (.d (.int .i64)))] [] [0, 3, 17] (.s .n (.s .n (.s (.s .n (.s .n (.l [(29, (.ref 102900 [])), (31, (.d (.int .i64)))] [(102900, (.sl (.fz (.int .i64))))] [0, 3, 4, 17, 18, 30] (.s .n (.s .n (.s (.s .n (.s .n (.l [(29, (.ref 102900 [])), (40, (.d (.int .i64)))] [(102900, (.sl (.fz (.int .i64))))] [0, 3, 4, 6, 17, 18, 30, 31, 39] (.s .n (.s .n (.s (.s .n (.s .n (.l [(29, (.ref 102900 [])), (51, (.ref 105100 [])), (53, (.d (.int .i64)))] [(102900, (.sl (.fz (.int .i64)))), (105100, (.sl (.fz (.int .i64))))] [0, 3, 4, 6, 7, 17, 18, 30, 31, 39, 40, 52] .n))) .n)))))) .n)))))) .n))))) .n)))
def ph_impl_Monoidal_interchanges : FuncId -> Option Ct := lkp [(128, c_impl_Category_outOf), (67, c_impl_Category_then)]
def W_impl_Monoidal_interchanges (m : MonoidalD) (K : Bool × Unit -> Prop) : Prop := (loopW (S := ((Int × Unit) × Unit)) (fun s => (fun next => ((inK .i64 s.1.1) -> (cnd (decide (s.1.1 < ((m.1.2.1.length : Nat) : Int))) ((0 <= s.1.1) /\ ((s.1.1 < ((m.1.2.2.1.length : Nat) : Int)) /\ ((m.1.2.1.length <= 40) /\ (loopW (S := ((Unit × (Int × Unit)) × ((List Int) × Unit))) (fun s1 => (fun next1 => ((inK .i64 s1.1.2.1) -> ((T.ok (.sl (.int .i64)) s1.2.1) -> (cnd (decide (s1.1.2.1 < (((List.length (outR m.1 (List.getD m.1.2.2.1 s.1.1.toNat 0))) : Nat) : Int))) ((0 <= s1.1.2.1) /\ ((s1.1.2.1 < ((s1.2.1.length : Nat) : Int)) /\ (loopW (S := ((Unit × (Int × Unit)) × ((List Int) × Unit))) (fun s2 => (fun next2 => ((inK .i64 s2.1.2.1) -> ((T.ok (.sl (.int .i64)) s2.2.1) -> (cnd (decide (s2.1.2.1 < ((m.1.2.1.length : Nat) : Int))) ((0 <= s2.1.2.1) /\ ((s2.1.2.1 < ((m.1.2.2.1.length : Nat) : Int)) /\ ((m.1.2.1.length <= 40) /\ (loopW (S := ((Unit × (Unit × (Int × Unit))) × ((List Int) × ((List Int) × Unit)))) (fun s3 => (fun next3 => ((inK .i64 s3.1.2.2.1) -> ((T.ok (.sl (.int .i64)) s3.2.1) -> ((T.ok (.sl (.int .i64)) s3.2.2.1) -> (cnd (decide (s3.1.2.2.1 < (((List.length (outR m.1 (List.getD m.1.2.2.1 s2.1.2.1.toNat 0))) : Nat) : Int))) ((0 <= s3.1.2.2.1) /\ ((s3.1.2.2.1 < ((s3.2.2.1.length : Nat) : Int)) /\ ((0 <= s.1.1) /\ ((s.1.1 < ((m.1.2.2.2.2.length : Nat) : Int)) /\ ((0 <= (List.getD s1.2.1 s1.1.2.1.toNat 0)) /\ (((List.getD s1.2.1 s1.1.2.1.toNat 0) < (((List.length (List.getD m.1.2.2.2.2 s.1.1.toNat [])) : Nat) : Int)) /\ ((0 <= (compR m.1 s.1.1 (List.getD s1.2.1 s1.1.2.1.toNat 0))) /\ (((compR m.1 s.1.1 (List.getD s1.2.1 s1.1.2.1.toNat 0)) < ((m.2.2.2.length : Nat) : Int)) /\ ((0 <= s2.1.2.1) /\ ((s2.1.2.1 < ((m.1.2.2.2.2.length : Nat) : Int)) /\ ((0 <= (List.getD s3.2.2.1 s3.1.2.2.1.toNat 0)) /\ (((List.getD s3.2.2.1 s3.1.2.2.1.toNat 0) < (((List.length (List.getD m.1.2.2.2.2 s2.1.2.1.toNat [])) : Nat) : Int)) /\ ((0 <= (compR m.1 s2.1.2.1 (List.getD s3.2.2.1 s3.1.2.2.1.toNat 0))) /\ (((compR m.1 s2.1.2.1 (List.getD s3.2.2.1 s3.1.2.2.1.toNat 0)) < (((List.length (List.getD m.2.2.2 (Int.toNat (compR m.1 s.1.1 (List.getD s1.2.1 s1.1.2.1.toNat 0))) [])) : Nat) : Int)) /\ ((0 <= s.1.1) /\ ((s.1.1 < ((m.2.2.2.length : Nat) : Int)) /\ ((0 <= s2.1.2.1) /\ ((s2.1.2.1 < (((List.length (List.getD m.2.2.2 s.1.1.toNat [])) : Nat) : Int)) /\ ((0 <= (List.getD s1.2.1 s1.1.2.1.toNat 0)) /\ (((List.getD s1.2.1 s1.1.2.1.toNat 0) < ((m.2.2.2.length : Nat) : Int)) /\ ((0 <= (List.getD s3.2.2.1 s3.1.2.2.1.toNat 0)) /\ (((List.getD s3.2.2.1 s3.1.2.2.1.toNat 0) < (((List.length (List.getD m.2.2.2 (Int.toNat (List.getD s1.2.1 s1.1.2.1.toNat 0)) [])) : Nat) : Int)) /\ ((0 <= (List.getD (List.getD m.2.2.2 s.1.1.toNat []) s2.1.2.1.toNat 0)) /\ (((List.getD (List.getD m.2.2.2 s.1.1.toNat []) s2.1.2.1.toNat 0) < ((m.1.2.2.2.2.length : Nat) : Int)) /\ ((0 <= (List.getD (List.getD m.2.2.2 (Int.toNat (List.getD s1.2.1 s1.1.2.1.toNat 0)) []) (Int.toNat (List.getD s3.2.2.1 s3.1.2.2.1.toNat 0)) 0)) /\ (((List.getD (List.getD m.2.2.2 (Int.toNat (List.getD s1.2.1 s1.1.2.1.toNat 0)) []) (Int.toNat (List.getD s3.2.2.1 s3.1.2.2.1.toNat 0)) 0) < (((List.length (List.getD m.1.2.2.2.2 (Int.toNat (List.getD (List.getD m.2.2.2 s.1.1.toNat []) s2.1.2.1.toNat 0)) [])) : Nat) : Int)) /\ (cnd ((List.getD (List.getD m.2.2.2 (Int.toNat (compR m.1 s.1.1 (List.getD s1.2.1 s1.1.2.1.toNat 0))) []) (Int.toNat (compR m.1 s2.1.2.1 (List.getD s3.2.2.1 s3.1.2.2.1.toNat 0))) 0) != (compR m.1 (List.getD (List.getD m.2.2.2 s.1.1.toNat []) s2.1.2.1.toNat 0) (List.getD (List.getD m.2.2.2 (Int.toNat (List.getD s1.2.1 s1.1.2.1.toNat 0)) []) (Int.toNat (List.getD s3.2.2.1 s3.1.2.2.1.toNat 0)) 0))) (K (false, ())) ((inK .i64 (s3.1.2.2.1 + 1)) /\ (next3 (((), ((), ((s3.1.2.2.1 + 1), ()))), (s3.2.1, (s3.2.2.1, ())))))))))))))))))))))))))))))))) ((inK .i64 (s2.1.2.1 + 1)) /\ (next2 (((), ((s2.1.2.1 + 1), ())), (s3.2.1, ())))))))))) (((), ((), (0, ()))), (s2.2.1, ((outR m.1 (List.getD m.1.2.2.1 s2.1.2.1.toNat 0)), ()))))))) ((inK .i64 (s1.1.2.1 + 1)) /\ (next1 (((), ((s1.1.2.1 + 1), ())), (s2.2.1, ()))))))))) (((), (0, ())), (s1.2.1, ()))))) ((inK .i64 (s.1.1 + 1)) /\ (next (((s.1.1 + 1), ()), ())))))))) (((), (0, ())), ((outR m.1 (List.getD m.1.2.2.1 s.1.1.toNat 0)), ())))))) (K (true, ())))))) ((0, ()), ()))
theorem w_impl_Monoidal_interchanges (x : denL c_impl_Monoidal_interchanges.args) (K : Bool × Unit -> Prop) : evF tab ph_impl_Monoidal_interchanges (cutL [(14, 39)]) Try.f101 (bodyOf Try.f101) an_impl_Monoidal_interchanges c_impl_Monoidal_interchanges x K = W_impl_Monoidal_interchanges x.1 K := by kernel_rfl
theorem k_impl_Monoidal_interchanges : okC Try.f101.ntmps (cutL [(14, 39)]) (bodyOf Try.f101) = true := by kernel_rfl
theorem m_impl_Monoidal_interchanges (m : MonoidalD) (hok : allP (okL c_impl_Monoidal_interchanges.args (m, ()))) (hpre : allP (c_impl_Monoidal_interchanges.pre (m, ()))) : W_impl_Monoidal_interchanges m (fun r => r = c_impl_Monoidal_interchanges.res (m, ())) := by
 simp only [c_impl_Monoidal_interchanges, okL, T.oks, T.ok, ap, allP, true_and, and_true, implies_true] at hok hpre
 try dsimp only [T.den] at hok
 try dsimp only [T.den] at hpre
 unfold W_impl_Monoidal_interchanges
 have S : ShapeP m.1 := hpre.1
 have A := tab_at hpre.2.2
 have hlt := S.lt
 have hlc := S.lc
 have hmm := S.m
 have bad : ¬ (interR m = true) -> (false, ()) = c_impl_Monoidal_interchanges.res (m, ()) := fun h => by
  simp only [c_impl_Monoidal_interchanges]
  cases hs : interR m with
  | false => rfl
  | true => exact absurd hs h
 have hat : ∀ i j : Int, (m.2.2.2.getD i.toNat []).getD j.toNat 0 = atR m.2.2.2 i j := fun _ _ => rfl
 simp only [hat]
 have key : ∀ f h g k : Int, Prop := fun f h g k => atR m.2.2.2 (compR m.1 f h) (compR m.1 g k) = compR m.1 (atR m.2.2.2 f g) (atR m.2.2.2 h k)
 refine loop_ix (n := m.1.2.1.length) (fun f => ∀ f' : Int, 0 <= f' -> f' < f -> ∀ h : Int, 0 <= h -> h < m.1.2.1.length -> m.1.2.2.1.getD f'.toNat 0 = m.1.2.1.getD h.toNat 0 -> ∀ g : Int, 0 <= g -> g < m.1.2.1.length -> ∀ k : Int, 0 <= k -> k < m.1.2.1.length -> m.1.2.2.1.getD g.toNat 0 = m.1.2.1.getD k.toNat 0 ->
  atR m.2.2.2 (compR m.1 f' h) (compR m.1 g k) = compR m.1 (atR m.2.2.2 f' g) (atR m.2.2.2 h k)) (by omega) (by intro y h0 h1; omega) ?_ ?_
 ·intro f next f0 f1 hP hn hin
  try dsimp only
  have rf := S.row f f0 f1
  have raf := A.2.1 f f0 f1
  have lo := out_len S (m.1.2.2.1.getD f.toNat 0)
  refine cnd_d (fun _ => ⟨f0, by omega, hmm, ?_⟩) (fun h => absurd f1 h)
  refine loop_ix1 (n := (outR m.1 (m.1.2.2.1.getD f.toNat 0)).length) (fun i => ∀ i' : Int, 0 <= i' -> i' < i -> ∀ g : Int, 0 <= g -> g < m.1.2.1.length -> ∀ k : Int, 0 <= k -> k < m.1.2.1.length -> m.1.2.2.1.getD g.toNat 0 = m.1.2.1.getD k.toNat 0 ->
   atR m.2.2.2 (compR m.1 f ((outR m.1 (m.1.2.2.1.getD f.toNat 0)).getD i'.toNat 0)) (compR m.1 g k) = compR m.1 (atR m.2.2.2 f g) (atR m.2.2.2 ((outR m.1 (m.1.2.2.1.getD f.toNat 0)).getD i'.toNat 0) k)) (by omega) (by intro y h0 h1; omega) ?_ ?_
  ·intro i next2 i0 i1 hP2 hn2 _ _
   try dsimp only
   have oh := out_at i0 i1
   refine cnd_d (fun _ => ⟨i0, i1, ?_⟩) (fun h => absurd i1 h)
   generalize hh : (outR m.1 (m.1.2.2.1.getD f.toNat 0)).getD i.toNat 0 = h at oh ⊢
   have yfh := S.yes f0 f1 oh.1 oh.2.1 oh.2.2.symm
   have rah := A.2.1 h oh.1 oh.2.1
   have raz := A.2.1 _ yfh.1 yfh.2.1
   generalize (outR m.1 (m.1.2.2.1.getD f.toNat 0)) = out at *
   refine loop_ix1 (n := m.1.2.1.length) (fun g => ∀ g' : Int, 0 <= g' -> g' < g -> ∀ k : Int, 0 <= k -> k < m.1.2.1.length -> m.1.2.2.1.getD g'.toNat 0 = m.1.2.1.getD k.toNat 0 ->
    atR m.2.2.2 (compR m.1 f h) (compR m.1 g' k) = compR m.1 (atR m.2.2.2 f g') (atR m.2.2.2 h k)) (by omega) (by intro y h0 h1; omega) ?_ ?_
   ·intro g next3 g0 g1 hP3 hn3 _ _
    try dsimp only
    have rg := S.row g g0 g1
    have afg := A.2.2 f g f0 f1 g0 g1
    have rcf := S.row _ afg.1 afg.2
    have lo2 := out_len S (m.1.2.2.1.getD g.toNat 0)
    refine cnd_d (fun _ => ⟨g0, by omega, hmm, ?_⟩) (fun h => absurd g1 h)
    refine loop_of (fun (s3 : ((Unit × (Unit × (Int × Unit))) × ((List Int) × ((List Int) × Unit)))) => s3.2.1 = out /\ s3.2.2.1 = outR m.1 (m.1.2.2.1.getD g.toNat 0) /\ 0 <= s3.1.2.2.1 /\ s3.1.2.2.1 <= (outR m.1 (m.1.2.2.1.getD g.toNat 0)).length /\ ∀ j : Int, 0 <= j -> j < s3.1.2.2.1 ->
     atR m.2.2.2 (compR m.1 f h) (compR m.1 g ((outR m.1 (m.1.2.2.1.getD g.toNat 0)).getD j.toNat 0)) = compR m.1 (atR m.2.2.2 f g) (atR m.2.2.2 h ((outR m.1 (m.1.2.2.1.getD g.toNat 0)).getD j.toNat 0))) (fun (s3 : ((Unit × (Unit × (Int × Unit))) × ((List Int) × ((List Int) × Unit)))) => ((outR m.1 (m.1.2.2.1.getD g.toNat 0)).length - s3.1.2.2.1).toNat) ?_ ⟨rfl, rfl, by simp, by simp, fun j j0 j1 => by dsimp only at j1; omega⟩
    rintro ⟨⟨_, _, j, _⟩, l1, l2, _⟩ next4 ⟨rfl, rfl, j0, j1, hP4⟩ hn4 _ _ _
    try dsimp only at j0 j1 hP4 hn4 hh hn2 hP2 ⊢
    refine cnd_d (fun hj => ?_) (fun hj => ⟨by rw [inK64]; (try dsimp only); omega, hn3 fun g' a0 a1 => ?_⟩)
    ·have ok := out_at j0 hj
     generalize hk : (outR m.1 (m.1.2.2.1.getD g.toNat 0)).getD j.toNat 0 = k at ok ⊢
     have ygk := S.yes g0 g1 ok.1 ok.2.1 ok.2.2.symm
     have ahk := A.2.2 h k oh.1 oh.2.1 ok.1 ok.2.1
     refine ⟨j0, hj, f0, by omega, oh.1, by omega, yfh.1, by omega, g0, by omega, ok.1, by omega, ygk.1, by omega, f0, by omega, g0, by omega, oh.1, by omega, ok.1, by omega, afg.1, by omega, ahk.1, by omega, cnd_of (fun hx => bad fun q => ?_) (fun hx => ⟨by rw [inK64]; (try dsimp only); omega, hn4 _ ⟨rfl, rfl, (by first | omega | (dsimp only; omega)), (by first | omega | (dsimp only; omega)), fun j' a0 a1 => ?_⟩ (by first | omega | (dsimp only; omega))⟩)⟩
     ·rw [inter_iff.1 q f f0 f1 h oh.1 oh.2.1 oh.2.2.symm g g0 g1 k ok.1 ok.2.1 ok.2.2.symm] at hx; simp at hx
     ·by_cases e : j' = j
      ·rw [e, hk]; simpa using hx
      ·exact hP4 j' a0 (by dsimp only at a1; omega)
    ·by_cases e : g' = g
     ·rw [e]
      intro k k0 k1 ek
      exact out_all (p := fun k => atR m.2.2.2 (compR m.1 f h) (compR m.1 g k) = compR m.1 (atR m.2.2.2 f g) (atR m.2.2.2 h k)) (fun j' a0 a1 => hP4 j' a0 (by omega)) k0 k1 ek.symm
     ·exact hP3 g' a0 (by omega)
   ·intro next3 hP3 _ _
    refine cnd_d (fun h => absurd h (by dsimp only; omega)) (fun _ => ⟨by rw [inK64]; (try dsimp only); omega, hn2 fun i' a0 a1 => ?_⟩)
    by_cases e : i' = i
    ·rw [e, hh]; exact hP3
    ·exact hP2 i' a0 (by omega)
  ·intro next2 hP2 _ _
   refine cnd_d (fun h => absurd h (by dsimp only; omega)) (fun _ => ⟨by rw [inK64]; (try dsimp only); omega, hn fun f' a0 a1 => ?_⟩)
   by_cases e : f' = f
   ·rw [e]
    intro h h0 h1 eh
    exact out_all (p := fun h => ∀ g : Int, 0 <= g -> g < m.1.2.1.length -> ∀ k : Int, 0 <= k -> k < m.1.2.1.length -> m.1.2.2.1.getD g.toNat 0 = m.1.2.1.getD k.toNat 0 -> atR m.2.2.2 (compR m.1 f h) (compR m.1 g k) = compR m.1 (atR m.2.2.2 f g) (atR m.2.2.2 h k)) hP2 h0 h1 eh.symm
   ·exact hP f' a0 (by omega)
 ·intro next hP hin
  refine cnd_d (fun h => absurd h (by dsimp only; omega)) (fun _ => ?_)
  simp only [c_impl_Monoidal_interchanges]
  rw [inter_iff.2 hP]
theorem ct_impl_Monoidal_interchanges : CtOk Try.prog 101 c_impl_Monoidal_interchanges :=
 ct_by (Φ := ph_impl_Monoidal_interchanges) (good_cons ct_impl_Category_outOf (good_cons ct_impl_Category_then good_nil)) tab_ok (by kernel_rfl) (fn := Try.f101) (c := bodyOf Try.f101) (by kernel_rfl) (by kernel_rfl) (by kernel_rfl) c_impl_Monoidal_interchanges rfl an_impl_Monoidal_interchanges (cutL [(14, 39)]) (by kernel_rfl) (by kernel_rfl) k_impl_Monoidal_interchanges (by decide) (fun x K => W_impl_Monoidal_interchanges x.1 K) w_impl_Monoidal_interchanges (fun x h1 h2 => m_impl_Monoidal_interchanges x.1 h1 h2)
def assocR (t : List (List Int)) (u : Int) : Bool := allB t.length fun x => (decide (atR t x u = x) && decide (atR t u x = x)) && allB t.length fun y => allB t.length fun z => decide (atR t (atR t x y) z = atR t x (atR t y z))
theorem assoc_iff {t : List (List Int)} {u : Int} : assocR t u = true ↔ ∀ x : Int, 0 <= x -> x < t.length -> (atR t x u = x /\ atR t u x = x) /\ ∀ y : Int, 0 <= y -> y < t.length -> ∀ z : Int, 0 <= z -> z < t.length -> atR t (atR t x y) z = atR t x (atR t y z) := by
 simp only [assocR, allB_iff, Bool.and_eq_true, decide_eq_true_eq]
def c_impl_isAssociative : Ct := ⟨[(.sl (.sl (.int .i64))), (.int .i64)], [false, false], fun x => [tabR x.1 x.1.length = true, x.1.length <= 40, 0 <= x.2.1, x.2.1 < x.1.length], [(false, (.fz .bool))], fun x => (assocR x.1 x.2.1, ()), false, none⟩
def an_impl_isAssociative : Ann := (.s .n (.s (.s .n (.l [(10, (.d (.int .i64)))] [] [0, 1, 9] (.s .n (.s .n (.s (.s .n (.s .n (.s .n (.l [(35, (.d (.int .i64)))] [] [0, 1, 5, 9, 10, 34] (.s .n (.s .n (.s (.s .n (.s .n (.l [(40, (.d (.int .i64)))] [] [0, 1, 5, 6, 9, 10, 34, 35, 39] .n))) .n))))))) .n))))) .n))
def W_impl_isAssociative (table : List (List Int)) (unit : Int) (K : Bool × Unit -> Prop) : Prop := (loopW (S := ((Int × Unit) × Unit)) (fun s => (fun next => ((inK .i64 s.1.1) -> (cnd (decide (s.1.1 < ((table.length : Nat) : Int))) ((0 <= s.1.1) /\ ((s.1.1 < ((table.length : Nat) : Int)) /\ ((0 <= unit) /\ ((unit < (((List.length (List.getD table s.1.1.toNat [])) : Nat) : Int)) /\ (((((List.getD (List.getD table s.1.1.toNat []) unit.toNat 0) != s.1.1) = false) -> ((unit < ((table.length : Nat) : Int)) /\ (0 <= unit))) /\ (((((List.getD (List.getD table s.1.1.toNat []) unit.toNat 0) != s.1.1) = false) -> ((s.1.1 < (((List.length (List.getD table unit.toNat [])) : Nat) : Int)) /\ (0 <= s.1.1))) /\ (cnd (((List.getD (List.getD table s.1.1.toNat []) unit.toNat 0) != s.1.1) || ((List.getD (List.getD table unit.toNat []) s.1.1.toNat 0) != s.1.1)) (K (false, ())) (loopW (S := ((Int × Unit) × Unit)) (fun s1 => (fun next1 => ((inK .i64 s1.1.1) -> (cnd (decide (s1.1.1 < ((table.length : Nat) : Int))) (loopW (S := ((Int × Unit) × Unit)) (fun s2 => (fun next2 => ((inK .i64 s2.1.1) -> (cnd (decide (s2.1.1 < ((table.length : Nat) : Int))) ((0 <= s.1.1) /\ ((s.1.1 < ((table.length : Nat) : Int)) /\ ((0 <= s1.1.1) /\ ((s1.1.1 < (((List.length (List.getD table s.1.1.toNat [])) : Nat) : Int)) /\ ((0 <= (List.getD (List.getD table s.1.1.toNat []) s1.1.1.toNat 0)) /\ (((List.getD (List.getD table s.1.1.toNat []) s1.1.1.toNat 0) < ((table.length : Nat) : Int)) /\ ((0 <= s2.1.1) /\ ((s2.1.1 < (((List.length (List.getD table (Int.toNat (List.getD (List.getD table s.1.1.toNat []) s1.1.1.toNat 0)) [])) : Nat) : Int)) /\ ((0 <= s.1.1) /\ ((s.1.1 < ((table.length : Nat) : Int)) /\ ((0 <= s1.1.1) /\ ((s1.1.1 < ((table.length : Nat) : Int)) /\ ((0 <= s2.1.1) /\ ((s2.1.1 < (((List.length (List.getD table s1.1.1.toNat [])) : Nat) : Int)) /\ ((0 <= (List.getD (List.getD table s1.1.1.toNat []) s2.1.1.toNat 0)) /\ (((List.getD (List.getD table s1.1.1.toNat []) s2.1.1.toNat 0) < (((List.length (List.getD table s.1.1.toNat [])) : Nat) : Int)) /\ (cnd ((List.getD (List.getD table (Int.toNat (List.getD (List.getD table s.1.1.toNat []) s1.1.1.toNat 0)) []) s2.1.1.toNat 0) != (List.getD (List.getD table s.1.1.toNat []) (Int.toNat (List.getD (List.getD table s1.1.1.toNat []) s2.1.1.toNat 0)) 0)) (K (false, ())) ((inK .i64 (s2.1.1 + 1)) /\ (next2 (((s2.1.1 + 1), ()), ())))))))))))))))))))) ((inK .i64 (s1.1.1 + 1)) /\ (next1 (((s1.1.1 + 1), ()), ()))))))) ((0, ()), ())) ((inK .i64 (s.1.1 + 1)) /\ (next (((s.1.1 + 1), ()), ()))))))) ((0, ()), ()))))))))) (K (true, ())))))) ((0, ()), ()))
theorem w_impl_isAssociative (x : denL c_impl_isAssociative.args) (K : Bool × Unit -> Prop) : evF tab (lkp []) (cutL [(12, 27)]) Try.f100 (bodyOf Try.f100) an_impl_isAssociative c_impl_isAssociative x K = W_impl_isAssociative x.1 x.2.1 K := by kernel_rfl
theorem k_impl_isAssociative : okC Try.f100.ntmps (cutL [(12, 27)]) (bodyOf Try.f100) = true := by kernel_rfl
theorem m_impl_isAssociative (table : List (List Int)) (unit : Int) (hok : allP (okL c_impl_isAssociative.args (table, unit, ()))) (hpre : allP (c_impl_isAssociative.pre (table, unit, ()))) : W_impl_isAssociative table unit (fun r => r = c_impl_isAssociative.res (table, unit, ())) := by
 simp only [c_impl_isAssociative, okL, T.oks, T.ok, ap, allP, true_and, and_true, implies_true] at hok hpre
 try dsimp only [T.den] at hok
 try dsimp only [T.den] at hpre
 unfold W_impl_isAssociative
 have T := tab_at hpre.1
 have hl := hpre.2.1
 have u0 := hpre.2.2.1
 have u1 := hpre.2.2.2
 have bad : ¬ (assocR table unit = true) -> (false, ()) = c_impl_isAssociative.res (table, unit, ()) := fun h => by
  simp only [c_impl_isAssociative]
  cases hs : assocR table unit with
  | false => rfl
  | true => exact absurd hs h
 have hat : ∀ i j : Int, (table.getD i.toNat []).getD j.toNat 0 = atR table i j := fun _ _ => rfl
 simp only [hat]
 have ru := T.2.1 unit u0 (by omega)
 refine loop_ix (n := table.length) (fun x => ∀ x' : Int, 0 <= x' -> x' < x -> (atR table x' unit = x' /\ atR table unit x' = x') /\ ∀ y : Int, 0 <= y -> y < table.length -> ∀ z : Int, 0 <= z -> z < table.length -> atR table (atR table x' y) z = atR table x' (atR table y z)) (by omega) (by intro y h0 h1; omega) ?_ ?_
 ·intro x next h0 h1 hP hn hin
  try dsimp only
  have rx := T.2.1 x h0 (by omega)
  refine cnd_d (fun _ => ⟨h0, h1, u0, by omega, fun _ => by omega, fun _ => by omega, cnd_of (fun hx => bad fun h => ?_) (fun hx => ?_)⟩) (fun h => absurd h1 h)
  ·have := (assoc_iff.1 h x h0 h1).1
   rw [this.1, this.2] at hx; simp at hx
  simp only [Bool.or_eq_false_iff, bne_eq_false_iff_eq] at hx
  refine loop_ix (n := table.length) (fun y => ∀ y' : Int, 0 <= y' -> y' < y -> ∀ z : Int, 0 <= z -> z < table.length -> atR table (atR table x y') z = atR table x (atR table y' z)) (by omega) (by intro y h0 h1; omega) ?_ ?_
  ·intro y next2 y0 y1 hP2 hn2 hin2
   try dsimp only
   have ry := T.2.1 y y0 (by omega)
   have axy := T.2.2 x y h0 (by omega) y0 (by omega)
   have rxy := T.2.1 _ axy.1 (by omega)
   refine cnd_d (fun _ => ?_) (fun h => absurd y1 h)
   refine loop_ix (n := table.length) (fun z => ∀ z' : Int, 0 <= z' -> z' < z -> atR table (atR table x y) z' = atR table x (atR table y z')) (by omega) (by intro y h0 h1; omega) ?_ ?_
   ·intro z next3 z0 z1 hP3 hn3 hin3
    try dsimp only
    have ayz := T.2.2 y z y0 (by omega) z0 (by omega)
    refine cnd_d (fun _ => ⟨h0, h1, y0, by omega, axy.1, by omega, z0, by omega, h0, h1, y0, y1, z0, by omega, ayz.1, by omega, cnd_of (fun hx2 => bad fun h => ?_) (fun hx2 => ⟨by rw [inK64]; (try dsimp only); omega, hn3 fun z' a0 a1 => ?_⟩)⟩) (fun h => absurd z1 h)
    ·rw [(assoc_iff.1 h x h0 h1).2 y y0 y1 z z0 z1] at hx2; simp at hx2
    ·by_cases e : z' = z
     ·rw [e]; simpa using hx2
     ·exact hP3 z' a0 (by omega)
   ·intro next3 hP3 hin3
    refine cnd_d (fun h => absurd h (by dsimp only; omega)) (fun _ => ⟨by rw [inK64]; (try dsimp only); omega, hn2 fun y' a0 a1 => ?_⟩)
    by_cases e : y' = y
    ·rw [e]; exact hP3
    ·exact hP2 y' a0 (by omega)
  ·intro next2 hP2 hin2
   refine cnd_d (fun h => absurd h (by dsimp only; omega)) (fun _ => ⟨by rw [inK64]; (try dsimp only); omega, hn fun x' a0 a1 => ?_⟩)
   by_cases e : x' = x
   ·rw [e]; exact ⟨hx, hP2⟩
   ·exact hP x' a0 (by omega)
 ·intro next hP hin
  refine cnd_d (fun h => absurd h (by dsimp only; omega)) (fun _ => ?_)
  simp only [c_impl_isAssociative]
  rw [assoc_iff.2 hP]
theorem ct_impl_isAssociative : CtOk Try.prog 100 c_impl_isAssociative :=
 ct_by (Φ := lkp []) good_nil tab_ok (by kernel_rfl) (fn := Try.f100) (c := bodyOf Try.f100) (by kernel_rfl) (by kernel_rfl) (by kernel_rfl) c_impl_isAssociative rfl an_impl_isAssociative (cutL [(12, 27)]) (by kernel_rfl) (by kernel_rfl) k_impl_isAssociative (by decide) (fun x K => W_impl_isAssociative x.1 x.2.1 K) w_impl_isAssociative (fun x h1 h2 => m_impl_isAssociative x.1 x.2.1 h1 h2)
def monIds (m : MonoidalD) : Bool := allB m.1.1.toNat fun x => allB m.1.1.toNat fun y => decide (atR m.2.2.2 (m.1.2.2.2.1.getD x.toNat 0) (m.1.2.2.2.1.getD y.toNat 0) = m.1.2.2.2.1.getD (atR m.2.2.1 x y).toNat 0)
def monR (m : MonoidalD) : Bool := catR m.1 && inR m.2.1 0 (m.1.1 - 1) && tabR m.2.2.1 m.1.1 && tabR m.2.2.2 m.1.2.1.length && endsR m && monIds m && assocR m.2.2.1 m.2.1 && assocR m.2.2.2 (m.1.2.2.2.1.getD m.2.1.toNat 0) && interR m
structure MonP (m : MonoidalD) : Prop where
 cat : catR m.1 = true
 u : 0 <= m.2.1 /\ m.2.1 < m.1.1
 ot : tabR m.2.2.1 m.1.1 = true
 at_ : tabR m.2.2.2 m.1.2.1.length = true
 ends : endsR m = true
 ids : monIds m = true
 oa : assocR m.2.2.1 m.2.1 = true
 aa : assocR m.2.2.2 (m.1.2.2.2.1.getD m.2.1.toNat 0) = true
 inter : interR m = true
theorem mon_iff {m : MonoidalD} : monR m = true ↔ MonP m := by
 simp only [monR, Bool.and_eq_true, inR, decide_eq_true_eq]
 constructor
 ·rintro ⟨⟨⟨⟨⟨⟨⟨⟨h1, h2⟩, h3⟩, h4⟩, h5⟩, h6⟩, h7⟩, h8⟩, h9⟩
  exact ⟨h1, by omega, h3, h4, h5, h6, h7, h8, h9⟩
 ·intro h
  exact ⟨⟨⟨⟨⟨⟨⟨⟨h.cat, by have := h.u; omega⟩, h.ot⟩, h.at_⟩, h.ends⟩, h.ids⟩, h.oa⟩, h.aa⟩, h.inter⟩
theorem ids_iff {m : MonoidalD} (S : ShapeP m.1) : monIds m = true ↔ ∀ x : Int, 0 <= x -> x < m.1.1 -> ∀ y : Int, 0 <= y -> y < m.1.1 ->
  atR m.2.2.2 (m.1.2.2.2.1.getD x.toNat 0) (m.1.2.2.2.1.getD y.toNat 0) = m.1.2.2.2.1.getD (atR m.2.2.1 x y).toNat 0 := by
 have e : ((m.1.1.toNat : Nat) : Int) = m.1.1 := by have := S.ob; omega
 simp only [monIds, allB_iff, decide_eq_true_eq, e]
theorem ids_idR {m : MonoidalD} (S : ShapeP m.1) (E : endsR m = true) : monIds m = true ↔ ∀ f : Int, 0 <= f -> f < m.1.2.1.length -> ∀ g : Int, 0 <= g -> g < m.1.2.1.length ->
  idR m.1 f = true -> idR m.1 g = true -> idR m.1 (atR m.2.2.2 f g) = true := by
 rw [ids_iff S]
 constructor
 ·intro h f f0 f1 g g0 g1 hf hg
  have a := S.frm f0 f1
  have b := S.frm g0 g1
  have e := ends_iff.1 E f f0 f1 g g0 g1
  have := h _ a.1 a.2.1 _ b.1 b.2.1
  simp only [idR, beq_iff_eq] at hf hg ⊢
  rw [hf, hg] at this
  rw [e.1]; exact this.symm
 ·intro h x x0 x1 y y0 y1
  have a := S.idn x0 x1
  have b := S.idn y0 y1
  have e := ends_iff.1 E _ a.1 a.2.1 _ b.1 b.2.1
  have := h _ a.1 a.2.1 _ b.1 b.2.1 (by simp only [idR, beq_iff_eq]; rw [a.2.2.1]) (by simp only [idR, beq_iff_eq]; rw [b.2.2.1])
  simp only [idR, beq_iff_eq] at this
  rw [e.1, a.2.2.1, b.2.2.1] at this
  exact this.symm
def c_impl_Monoidal_isMonoidal : Ct := ⟨[(.pt MonoidalT)], [false], fun x => [], [(false, (.fz .bool))], fun x => (monR x.1, ()), false, none⟩
def an_impl_Monoidal_isMonoidal : Ann := (.s .n (.s .n (.s .n (.s (.s .n (.l [(54, (.d (.int .i64)))] [] [0, 3, 52, 53] (.s .n (.s .n (.s (.s .n (.s .n (.l [(61, (.d (.int .i64)))] [] [0, 3, 4, 52, 53, 54, 59, 60] .n))) .n))))) .n))))
def ph_impl_Monoidal_isMonoidal : FuncId -> Option Ct := lkp [(40, c_impl_Category_arrows), (99, c_impl_Category_ends), (48, c_impl_Category_isCategory), (68, c_impl_Category_isIdentity), (101, c_impl_Monoidal_interchanges), (81, c_impl_inRange), (100, c_impl_isAssociative), (98, c_impl_isTable)]
def W_impl_Monoidal_isMonoidal (m : MonoidalD) (K : Bool × Unit -> Prop) : Prop := ((((!(catR m.1)) = false) -> (inK .i64 (m.1.1 - 1))) /\ (((((!(catR m.1)) || (!(inR m.2.1 0 (m.1.1 - 1)))) = false) -> (inK .i64 (m.1.1 - 1))) /\ ((((((!(catR m.1)) || (!(inR m.2.1 0 (m.1.1 - 1)))) || (!(tabR m.2.2.1 m.1.1))) = false) -> (inK .i64 (((m.1.2.1.length : Nat) : Int) - 1))) /\ (cnd ((((!(catR m.1)) || (!(inR m.2.1 0 (m.1.1 - 1)))) || (!(tabR m.2.2.1 m.1.1))) || (!(tabR m.2.2.2 ((m.1.2.1.length : Nat) : Int)))) (K (false, ())) (loopW (S := ((Int × Unit) × Unit)) (fun s => (fun next => ((inK .i64 s.1.1) -> (cnd (decide (s.1.1 < ((m.2.2.2.length : Nat) : Int))) ((0 <= s.1.1) /\ ((s.1.1 < ((m.2.2.2.length : Nat) : Int)) /\ (loopW (S := ((Int × Unit) × Unit)) (fun s1 => (fun next1 => ((inK .i64 s1.1.1) -> (cnd (decide (s1.1.1 < (((List.length (List.getD m.2.2.2 s.1.1.toNat [])) : Nat) : Int))) ((0 <= s1.1.1) /\ ((s1.1.1 < (((List.length (List.getD m.2.2.2 s.1.1.toNat [])) : Nat) : Int)) /\ ((0 <= (List.getD (List.getD m.2.2.2 s.1.1.toNat []) s1.1.1.toNat 0)) /\ (((List.getD (List.getD m.2.2.2 s.1.1.toNat []) s1.1.1.toNat 0) < ((m.1.2.1.length : Nat) : Int)) /\ (((List.getD (List.getD m.2.2.2 s.1.1.toNat []) s1.1.1.toNat 0) < ((m.1.2.2.1.length : Nat) : Int)) /\ ((0 <= s.1.1) /\ ((s.1.1 < ((m.1.2.1.length : Nat) : Int)) /\ ((0 <= (List.getD m.1.2.1 s.1.1.toNat 0)) /\ (((List.getD m.1.2.1 s.1.1.toNat 0) < ((m.2.2.1.length : Nat) : Int)) /\ ((0 <= s1.1.1) /\ ((s1.1.1 < ((m.1.2.1.length : Nat) : Int)) /\ ((0 <= (List.getD m.1.2.1 s1.1.1.toNat 0)) /\ (((List.getD m.1.2.1 s1.1.1.toNat 0) < (((List.length (List.getD m.2.2.1 (Int.toNat (List.getD m.1.2.1 s.1.1.toNat 0)) [])) : Nat) : Int)) /\ ((0 <= s.1.1) /\ ((s.1.1 < ((m.1.2.2.1.length : Nat) : Int)) /\ ((0 <= (List.getD m.1.2.2.1 s.1.1.toNat 0)) /\ (((List.getD m.1.2.2.1 s.1.1.toNat 0) < ((m.2.2.1.length : Nat) : Int)) /\ ((0 <= s1.1.1) /\ ((s1.1.1 < ((m.1.2.2.1.length : Nat) : Int)) /\ ((0 <= (List.getD m.1.2.2.1 s1.1.1.toNat 0)) /\ (((List.getD m.1.2.2.1 s1.1.1.toNat 0) < (((List.length (List.getD m.2.2.1 (Int.toNat (List.getD m.1.2.2.1 s.1.1.toNat 0)) [])) : Nat) : Int)) /\ (cnd (!(((List.getD m.1.2.1 (Int.toNat (List.getD (List.getD m.2.2.2 s.1.1.toNat []) s1.1.1.toNat 0)) 0) == (List.getD (List.getD m.2.2.1 (Int.toNat (List.getD m.1.2.1 s.1.1.toNat 0)) []) (Int.toNat (List.getD m.1.2.1 s1.1.1.toNat 0)) 0)) && ((List.getD m.1.2.2.1 (Int.toNat (List.getD (List.getD m.2.2.2 s.1.1.toNat []) s1.1.1.toNat 0)) 0) == (List.getD (List.getD m.2.2.1 (Int.toNat (List.getD m.1.2.2.1 s.1.1.toNat 0)) []) (Int.toNat (List.getD m.1.2.2.1 s1.1.1.toNat 0)) 0)))) (K (false, ())) ((ShapeP m.1) /\ ((0 <= s.1.1) /\ ((s.1.1 < ((m.1.2.1.length : Nat) : Int)) /\ ((((idR m.1 s.1.1) = true) -> ((0 <= s1.1.1) /\ ((s1.1.1 < ((m.1.2.1.length : Nat) : Int)) /\ (ShapeP m.1)))) /\ (((((idR m.1 s.1.1) && (idR m.1 s1.1.1)) = true) -> ((0 <= (List.getD (List.getD m.2.2.2 s.1.1.toNat []) s1.1.1.toNat 0)) /\ (((List.getD (List.getD m.2.2.2 s.1.1.toNat []) s1.1.1.toNat 0) < ((m.1.2.1.length : Nat) : Int)) /\ (ShapeP m.1)))) /\ (cnd (((idR m.1 s.1.1) && (idR m.1 s1.1.1)) && (!(idR m.1 (List.getD (List.getD m.2.2.2 s.1.1.toNat []) s1.1.1.toNat 0)))) (K (false, ())) ((inK .i64 (s1.1.1 + 1)) /\ (next1 (((s1.1.1 + 1), ()), ()))))))))))))))))))))))))))))))) ((inK .i64 (s.1.1 + 1)) /\ (next (((s.1.1 + 1), ()), ()))))))) ((0, ()), ())))) (((tabR m.2.2.1 ((m.2.2.1.length : Nat) : Int)) = true) /\ ((m.2.2.1.length <= 40) /\ ((0 <= m.2.1) /\ ((m.2.1 < ((m.2.2.1.length : Nat) : Int)) /\ ((((assocR m.2.2.1 m.2.1) = true) -> ((m.2.1 < ((m.1.2.2.2.1.length : Nat) : Int)) /\ (0 <= m.2.1))) /\ ((((assocR m.2.2.1 m.2.1) = true) -> ((m.2.2.2.length <= 40) /\ ((0 <= (List.getD m.1.2.2.2.1 m.2.1.toNat 0)) /\ (((List.getD m.1.2.2.2.1 m.2.1.toNat 0) < ((m.2.2.2.length : Nat) : Int)) /\ ((tabR m.2.2.2 ((m.2.2.2.length : Nat) : Int)) = true))))) /\ (((((assocR m.2.2.1 m.2.1) && (assocR m.2.2.2 (List.getD m.1.2.2.2.1 m.2.1.toNat 0))) = true) -> (((tabR m.2.2.1 m.1.1) = true) /\ (((tabR m.2.2.2 ((m.1.2.1.length : Nat) : Int)) = true) /\ (ShapeP m.1)))) /\ (K ((((assocR m.2.2.1 m.2.1) && (assocR m.2.2.2 (List.getD m.1.2.2.2.1 m.2.1.toNat 0))) && (interR m)), ()))))))))))))) ((0, ()), ()))))))
theorem w_impl_Monoidal_isMonoidal (x : denL c_impl_Monoidal_isMonoidal.args) (K : Bool × Unit -> Prop) : evF tab ph_impl_Monoidal_isMonoidal (cutL [(16, 31), (2, 38), (10, 49)]) Try.f38 (bodyOf Try.f38) an_impl_Monoidal_isMonoidal c_impl_Monoidal_isMonoidal x K = W_impl_Monoidal_isMonoidal x.1 K := by kernel_rfl
theorem k_impl_Monoidal_isMonoidal : okC Try.f38.ntmps (cutL [(16, 31), (2, 38), (10, 49)]) (bodyOf Try.f38) = true := by kernel_rfl
theorem m_impl_Monoidal_isMonoidal (m : MonoidalD) (hok : allP (okL c_impl_Monoidal_isMonoidal.args (m, ()))) (hpre : allP (c_impl_Monoidal_isMonoidal.pre (m, ()))) : W_impl_Monoidal_isMonoidal m (fun r => r = c_impl_Monoidal_isMonoidal.res (m, ())) := by
 simp only [c_impl_Monoidal_isMonoidal, okL, T.oks, T.ok, ap, allP, true_and, and_true, implies_true] at hok hpre
 try dsimp only [T.den] at hok
 try dsimp only [T.den] at hpre
 unfold W_impl_Monoidal_isMonoidal
 have bad : ¬ MonP m -> (false, ()) = c_impl_Monoidal_isMonoidal.res (m, ()) := fun h => by
  simp only [c_impl_Monoidal_isMonoidal]
  cases hs : monR m with
  | false => rfl
  | true => exact absurd (mon_iff.1 hs) h
 have hcs := fun h => (cat_shape (c := m.1) h).ob
 have hml : m.1.2.1.length <= 140737488355328 := by simp only [nb_eq] at hok; omega
 refine ⟨fun h => by grind [cnd, nb_eq, inK64], fun h => by grind [cnd, nb_eq, inK64], fun _ => by rw [inK64]; (try dsimp only); omega, cnd_of (fun hc => bad fun h => ?_) (fun hc => ?_)⟩
 ·have h1 := h.cat; have h2 := h.u; have h3 := h.ot; have h4 := h.at_
  simp only [h1, h3, h4, inR] at hc
  grind [cnd, nb_eq, inK64]
 simp only [Bool.or_eq_false_iff, Bool.not_eq_false'] at hc
 obtain ⟨⟨⟨hcat, hu⟩, hot⟩, hat⟩ := hc
 have hu := inR_iff.1 hu
 have S := cat_shape hcat
 have O := tab_at hot
 have A := tab_at hat
 have hlt := S.lt
 have hli := S.li
 have hlc := S.lc
 have hmm := S.m
 have hob := S.ob
 have at1 : ∀ i j : Int, (m.2.2.2.getD i.toNat []).getD j.toNat 0 = atR m.2.2.2 i j := fun _ _ => rfl
 have at2 : ∀ i j : Int, (m.2.2.1.getD i.toNat []).getD j.toNat 0 = atR m.2.2.1 i j := fun _ _ => rfl
 simp only [at1, at2]
 refine loop_ix (n := m.2.2.2.length) (fun f => ∀ f' : Int, 0 <= f' -> f' < f -> ∀ g : Int, 0 <= g -> g < m.1.2.1.length ->
  (m.1.2.1.getD (atR m.2.2.2 f' g).toNat 0 = atR m.2.2.1 (m.1.2.1.getD f'.toNat 0) (m.1.2.1.getD g.toNat 0) /\ m.1.2.2.1.getD (atR m.2.2.2 f' g).toNat 0 = atR m.2.2.1 (m.1.2.2.1.getD f'.toNat 0) (m.1.2.2.1.getD g.toNat 0)) /\
  (idR m.1 f' = true -> idR m.1 g = true -> idR m.1 (atR m.2.2.2 f' g) = true)) (by omega) (by intro y h0 h1; omega) ?_ ?_
 ·intro f next f0 f1 hP hn hin
  try dsimp only
  have sf := S.frm f0 (by omega)
  have rf := A.2.1 f f0 (by omega)
  refine cnd_d (fun _ => ⟨f0, f1, ?_⟩) (fun h => absurd f1 h)
  refine loop_ix (n := (m.2.2.2.getD f.toNat []).length) (fun g => ∀ g' : Int, 0 <= g' -> g' < g ->
   (m.1.2.1.getD (atR m.2.2.2 f g').toNat 0 = atR m.2.2.1 (m.1.2.1.getD f.toNat 0) (m.1.2.1.getD g'.toNat 0) /\ m.1.2.2.1.getD (atR m.2.2.2 f g').toNat 0 = atR m.2.2.1 (m.1.2.2.1.getD f.toNat 0) (m.1.2.2.1.getD g'.toNat 0)) /\
   (idR m.1 f = true -> idR m.1 g' = true -> idR m.1 (atR m.2.2.2 f g') = true)) (by omega) (by intro y h0 h1; omega) ?_ ?_
  ·intro g next2 g0 g1 hP2 hn2 hin2
   try dsimp only
   have sg := S.frm g0 (by omega)
   have afg := A.2.2 f g f0 (by omega) g0 (by omega)
   have r1 := O.2.1 _ sf.1 sf.2.1
   have r2 := O.2.1 _ sf.2.2.1 sf.2.2.2
   refine cnd_d (fun _ => ⟨g0, g1, afg.1, by omega, by omega, f0, by omega, sf.1, by omega, g0, by omega, sg.1, by omega, f0, by omega, sf.2.2.1, by omega, g0, by omega, sg.2.2.1, by omega, cnd_of (fun hx => bad fun h => ?_) (fun hx => ⟨S, f0, by omega, fun _ => ⟨g0, by omega, S⟩, fun _ => ⟨afg.1, by omega, S⟩, cnd_of (fun hy => bad fun h => ?_) (fun hy => ⟨by rw [inK64]; (try dsimp only); omega, hn2 fun g' a0 a1 => ?_⟩)⟩)⟩) (fun h => absurd g1 h)
   ·have := ends_iff.1 h.ends f f0 (by omega) g g0 (by omega)
    rw [this.1, this.2] at hx; simp at hx
   ·simp only [Bool.and_eq_true, Bool.not_eq_true'] at hy
    rw [(ids_idR S h.ends).1 h.ids f f0 (by omega) g g0 (by omega) hy.1.1 hy.1.2] at hy
    cases hy.2
   ·by_cases e : g' = g
    ·rw [e]
     simp only [Bool.not_eq_false', Bool.and_eq_true, beq_iff_eq] at hx
     refine ⟨hx, fun i1 i2 => ?_⟩
     rw [i1, i2] at hy
     simpa using hy
    ·exact hP2 g' a0 (by omega)
  ·intro next2 hP2 hin2
   refine cnd_d (fun h => absurd h (by dsimp only; omega)) (fun _ => ⟨by rw [inK64]; (try dsimp only); omega, hn fun f' a0 a1 => ?_⟩)
   by_cases e : f' = f
   ·rw [e]; exact fun g g0 g1 => hP2 g g0 (by omega)
   ·exact hP f' a0 (by omega)
 ·intro next hP hin
  have hE : endsR m = true := ends_iff.2 fun f f0 f1 g g0 g1 => (hP f f0 (by omega) g g0 g1).1
  have hI : monIds m = true := (ids_idR S hE).2 fun f f0 f1 g g0 g1 => (hP f f0 (by omega) g g0 g1).2
  have iu := S.idn hu.1 (by omega)
  have e1 : (m.2.2.1.length : Int) = m.1.1 := O.1
  have e2 : (m.2.2.2.length : Int) = m.1.2.1.length := A.1
  refine cnd_d (fun h => absurd h (by dsimp only; omega)) (fun _ => ⟨by rw [e1]; exact hot, by omega, hu.1, by omega, fun _ => ⟨by omega, hu.1⟩, fun _ => ⟨by omega, iu.1, by omega, by rw [e2]; exact hat⟩, fun _ => ⟨hot, hat, S⟩, ?_⟩)
  have hinr : inR m.2.1 0 (m.1.1 - 1) = true := inR_iff.2 hu
  simp only [c_impl_Monoidal_isMonoidal, monR, hcat, hinr, hot, hat, hE, hI, Bool.true_and]
theorem ct_impl_Monoidal_isMonoidal : CtOk Try.prog 38 c_impl_Monoidal_isMonoidal :=
 ct_by (Φ := ph_impl_Monoidal_isMonoidal) (good_cons ct_impl_Category_arrows (good_cons ct_impl_Category_ends (good_cons ct_impl_Category_isCategory (good_cons ct_impl_Category_isIdentity (good_cons ct_impl_Monoidal_interchanges (good_cons ct_impl_inRange (good_cons ct_impl_isAssociative (good_cons ct_impl_isTable good_nil)))))))) tab_ok (by kernel_rfl) (fn := Try.f38) (c := bodyOf Try.f38) (by kernel_rfl) (by kernel_rfl) (by kernel_rfl) c_impl_Monoidal_isMonoidal rfl an_impl_Monoidal_isMonoidal (cutL [(16, 31), (2, 38), (10, 49)]) (by kernel_rfl) (by kernel_rfl) k_impl_Monoidal_isMonoidal (by decide) (fun x K => W_impl_Monoidal_isMonoidal x.1 K) w_impl_Monoidal_isMonoidal (fun x h1 h2 => m_impl_Monoidal_isMonoidal x.1 h1 h2)
def c_impl_IsMonoidal : Ct := ⟨[MonoidalT], [true], fun x => [], [(false, (.fz .bool))], fun x => (monR x.1, ()), false, none⟩
def W_impl_IsMonoidal (m : MonoidalD) (K : Bool × Unit -> Prop) : Prop := (K ((monR m), ()))
theorem w_impl_IsMonoidal (x : denL c_impl_IsMonoidal.args) (K : Bool × Unit -> Prop) : evF tab (lkp [(38, c_impl_Monoidal_isMonoidal)]) (cutL []) Try.f14 (bodyOf Try.f14) .n c_impl_IsMonoidal x K = W_impl_IsMonoidal x.1 K := by kernel_rfl
theorem k_impl_IsMonoidal : okC Try.f14.ntmps (cutL []) (bodyOf Try.f14) = true := by kernel_rfl
theorem m_impl_IsMonoidal (m : MonoidalD) (hok : allP (okL c_impl_IsMonoidal.args (m, ()))) (hpre : allP (c_impl_IsMonoidal.pre (m, ()))) : W_impl_IsMonoidal m (fun r => r = c_impl_IsMonoidal.res (m, ())) := by
 simp only [c_impl_IsMonoidal, okL, T.oks, T.ok, ap, allP, true_and, and_true, implies_true] at hok hpre
 try dsimp only [T.den] at hok
 try dsimp only [T.den] at hpre
 unfold W_impl_IsMonoidal
 rfl
theorem ct_impl_IsMonoidal : CtOk Try.prog 14 c_impl_IsMonoidal :=
 ct_by (Φ := lkp [(38, c_impl_Monoidal_isMonoidal)]) (good_cons ct_impl_Monoidal_isMonoidal good_nil) tab_ok (by kernel_rfl) (fn := Try.f14) (c := bodyOf Try.f14) (by kernel_rfl) (by kernel_rfl) (by kernel_rfl) c_impl_IsMonoidal rfl .n (cutL []) (by kernel_rfl) (by kernel_rfl) k_impl_IsMonoidal (by decide) (fun x K => W_impl_IsMonoidal x.1 K) w_impl_IsMonoidal (fun x h1 h2 => m_impl_IsMonoidal x.1 h1 h2)
def tfR (t : List (List Int)) : Int -> List Int -> Int
 | x, [] => x
 | x, y :: r => tfR t (atR t x y) r
def tensOR (m : MonoidalD) (l : List Int) : Int × Int := if monR m = true then (if withinR l m.1.1 = true then (tfR m.2.2.1 m.2.1 l, 0) else (0, 2)) else (0, 1)
def tensAR (m : MonoidalD) (l : List Int) : Int × Int := if monR m = true then (if withinR l m.1.2.1.length = true then (tfR m.2.2.2 (m.1.2.2.2.1.getD m.2.1.toNat 0) l, 0) else (0, 2)) else (0, 1)
def c_impl_TensorObjects : Ct := ⟨[MonoidalT, (.sl (.int .i64))], [true, false], fun x => [], [(false, (.fz (.int .i64))), (false, (.fz (.int .i64)))], fun x => ((tensOR x.1 x.2.1).1, (tensOR x.1 x.2.1).2, ()), false, none⟩
def an_impl_TensorObjects : Ann := (.s .n (.s .n (.s .n (.s .n (.s (.s .n (.l [(6, (.d (.int .i64))), (21, (.d (.int .i64)))] [] [2, 19, 20] .n)) .n)))))
def ph_impl_TensorObjects : FuncId -> Option Ct := lkp [(38, c_impl_Monoidal_isMonoidal), (39, c_impl_within)]
def W_impl_TensorObjects (m : MonoidalD) (list : List Int) (K : Int × Int × Unit -> Prop) : Prop := (cnd (!(monR m)) (K (0, (1, ()))) ((inK .i64 (m.1.1 - 1)) /\ (cnd (!(withinR list m.1.1)) (K (0, (2, ()))) (loopW (S := ((Int × (Int × Unit)) × Unit)) (fun s => (fun next => ((inK .i64 s.1.1) -> ((inK .i64 s.1.2.1) -> (cnd (decide (s.1.2.1 < ((list.length : Nat) : Int))) ((0 <= s.1.2.1) /\ ((s.1.2.1 < ((list.length : Nat) : Int)) /\ ((0 <= s.1.1) /\ ((s.1.1 < ((m.2.2.1.length : Nat) : Int)) /\ ((0 <= (List.getD list s.1.2.1.toNat 0)) /\ (((List.getD list s.1.2.1.toNat 0) < (((List.length (List.getD m.2.2.1 s.1.1.toNat [])) : Nat) : Int)) /\ ((inK .i64 (s.1.2.1 + 1)) /\ (next (((List.getD (List.getD m.2.2.1 s.1.1.toNat []) (Int.toNat (List.getD list s.1.2.1.toNat 0)) 0), ((s.1.2.1 + 1), ())), ()))))))))) (K (s.1.1, (0, ())))))))) ((m.2.1, (0, ())), ())))))
theorem w_impl_TensorObjects (x : denL c_impl_TensorObjects.args) (K : Int × Int × Unit -> Prop) : evF tab ph_impl_TensorObjects (cutL []) Try.f11 (bodyOf Try.f11) an_impl_TensorObjects c_impl_TensorObjects x K = W_impl_TensorObjects x.1 x.2.1 K := by kernel_rfl
theorem k_impl_TensorObjects : okC Try.f11.ntmps (cutL []) (bodyOf Try.f11) = true := by kernel_rfl
theorem m_impl_TensorObjects (m : MonoidalD) (list : List Int) (hok : allP (okL c_impl_TensorObjects.args (m, list, ()))) (hpre : allP (c_impl_TensorObjects.pre (m, list, ()))) : W_impl_TensorObjects m list (fun r => r = c_impl_TensorObjects.res (m, list, ())) := by
 simp only [c_impl_TensorObjects, okL, T.oks, T.ok, ap, allP, true_and, and_true, implies_true] at hok hpre
 try dsimp only [T.den] at hok
 try dsimp only [T.den] at hpre
 unfold W_impl_TensorObjects
 have resq : ∀ a b, tensOR m list = (a, b) -> (a, b, ()) = c_impl_TensorObjects.res (m, list, ()) := fun a b h => by simp only [c_impl_TensorObjects, h]
 have hl : list.length <= 140737488355328 := by simp only [nb_eq] at hok; omega
 refine cnd_of (fun hc => resq _ _ ?_) (fun hc => ⟨by rw [inK64]; have := hok.1; rw [inK64] at this; have h2 := (cat_shape (mon_iff.1 (by simpa using hc)).cat).ob; omega, cnd_of (fun hd => resq _ _ ?_) (fun hd => ?_)⟩)
 ·unfold tensOR; rw [if_neg (by simpa using hc)]
 ·unfold tensOR; rw [if_pos (by simpa using hc), if_neg (by simpa using hd)]
 simp only [Bool.not_eq_false'] at hc hd
 have A := tab_at (mon_iff.1 hc).ot
 have at1 : ∀ i j : Int, (m.2.2.1.getD i.toNat []).getD j.toNat 0 = atR m.2.2.1 i j := fun _ _ => rfl
 have hR : tensOR m list = (tfR m.2.2.1 (m.2.1) list, 0) := by unfold tensOR; rw [if_pos hc, if_pos hd]
 have hu := (mon_iff.1 hc).u
 refine loop_of (fun (s : ((Int × (Int × Unit)) × Unit)) => 0 <= s.1.2.1 /\ s.1.2.1 <= list.length /\ 0 <= s.1.1 /\ s.1.1 < m.1.1 /\ tfR m.2.2.1 (m.2.1) list = tfR m.2.2.1 s.1.1 (list.drop s.1.2.1.toNat)) (fun (s : ((Int × (Int × Unit)) × Unit)) => (list.length - s.1.2.1).toNat) ?_ ⟨by simp, by simp, hu.1, hu.2, by simp⟩
 rintro ⟨⟨x, i, _⟩, _⟩ next ⟨h0, h1, h2, h3, h4⟩ hn hx hin
 try dsimp only at h0 h1 h2 h3 h4 hn ⊢
 simp only [at1]
 refine cnd_d (fun hi => ?_) (fun hi => resq _ _ ?_)
 ·have li := within_iff.1 hd i h0 hi
  have rx := A.2.1 x h2 h3
  have ax := A.2.2 x _ h2 h3 li.1 li.2
  rw [drop_c list 0 h0 hi] at h4
  refine ⟨h0, hi, h2, by omega, li.1, by omega, by rw [inK64]; (try dsimp only); omega, hn _ ⟨(by first | omega | (dsimp only; omega)), (by first | omega | (dsimp only; omega)), ax.1, ax.2, h4⟩ (by first | omega | (dsimp only; omega))⟩
 ·rw [drop_n list (by omega)] at h4
  rw [hR, h4]; rfl
theorem ct_impl_TensorObjects : CtOk Try.prog 11 c_impl_TensorObjects :=
 ct_by (Φ := ph_impl_TensorObjects) (good_cons ct_impl_Monoidal_isMonoidal (good_cons ct_impl_within good_nil)) tab_ok (by kernel_rfl) (fn := Try.f11) (c := bodyOf Try.f11) (by kernel_rfl) (by kernel_rfl) (by kernel_rfl) c_impl_TensorObjects rfl an_impl_TensorObjects (cutL []) (by kernel_rfl) (by kernel_rfl) k_impl_TensorObjects (by decide) (fun x K => W_impl_TensorObjects x.1 x.2.1 K) w_impl_TensorObjects (fun x h1 h2 => m_impl_TensorObjects x.1 x.2.1 h1 h2)
def c_impl_TensorArrows : Ct := ⟨[MonoidalT, (.sl (.int .i64))], [true, false], fun x => [], [(false, (.fz (.int .i64))), (false, (.fz (.int .i64)))], fun x => ((tensAR x.1 x.2.1).1, (tensAR x.1 x.2.1).2, ()), false, none⟩
def an_impl_TensorArrows : Ann := (.s .n (.s .n (.s .n (.s .n (.s (.s .n (.l [(6, (.d (.int .i64))), (25, (.d (.int .i64)))] [] [2, 23, 24] .n)) .n)))))
def ph_impl_TensorArrows : FuncId -> Option Ct := lkp [(40, c_impl_Category_arrows), (38, c_impl_Monoidal_isMonoidal), (39, c_impl_within)]
def W_impl_TensorArrows (m : MonoidalD) (list : List Int) (K : Int × Int × Unit -> Prop) : Prop := (cnd (!(monR m)) (K (0, (1, ()))) ((inK .i64 (((m.1.2.1.length : Nat) : Int) - 1)) /\ (cnd (!(withinR list ((m.1.2.1.length : Nat) : Int))) (K (0, (2, ()))) ((0 <= m.2.1) /\ ((m.2.1 < ((m.1.2.2.2.1.length : Nat) : Int)) /\ (loopW (S := ((Int × (Int × Unit)) × Unit)) (fun s => (fun next => ((inK .i64 s.1.1) -> ((inK .i64 s.1.2.1) -> (cnd (decide (s.1.2.1 < ((list.length : Nat) : Int))) ((0 <= s.1.2.1) /\ ((s.1.2.1 < ((list.length : Nat) : Int)) /\ ((0 <= s.1.1) /\ ((s.1.1 < ((m.2.2.2.length : Nat) : Int)) /\ ((0 <= (List.getD list s.1.2.1.toNat 0)) /\ (((List.getD list s.1.2.1.toNat 0) < (((List.length (List.getD m.2.2.2 s.1.1.toNat [])) : Nat) : Int)) /\ ((inK .i64 (s.1.2.1 + 1)) /\ (next (((List.getD (List.getD m.2.2.2 s.1.1.toNat []) (Int.toNat (List.getD list s.1.2.1.toNat 0)) 0), ((s.1.2.1 + 1), ())), ()))))))))) (K (s.1.1, (0, ())))))))) (((List.getD m.1.2.2.2.1 m.2.1.toNat 0), (0, ())), ())))))))
theorem w_impl_TensorArrows (x : denL c_impl_TensorArrows.args) (K : Int × Int × Unit -> Prop) : evF tab ph_impl_TensorArrows (cutL []) Try.f9 (bodyOf Try.f9) an_impl_TensorArrows c_impl_TensorArrows x K = W_impl_TensorArrows x.1 x.2.1 K := by kernel_rfl
theorem k_impl_TensorArrows : okC Try.f9.ntmps (cutL []) (bodyOf Try.f9) = true := by kernel_rfl
theorem m_impl_TensorArrows (m : MonoidalD) (list : List Int) (hok : allP (okL c_impl_TensorArrows.args (m, list, ()))) (hpre : allP (c_impl_TensorArrows.pre (m, list, ()))) : W_impl_TensorArrows m list (fun r => r = c_impl_TensorArrows.res (m, list, ())) := by
 simp only [c_impl_TensorArrows, okL, T.oks, T.ok, ap, allP, true_and, and_true, implies_true] at hok hpre
 try dsimp only [T.den] at hok
 try dsimp only [T.den] at hpre
 unfold W_impl_TensorArrows
 have resq : ∀ a b, tensAR m list = (a, b) -> (a, b, ()) = c_impl_TensorArrows.res (m, list, ()) := fun a b h => by simp only [c_impl_TensorArrows, h]
 have hl : list.length <= 140737488355328 := by simp only [nb_eq] at hok; omega
 refine cnd_of (fun hc => resq _ _ ?_) (fun hc => ⟨by rw [inK64]; have h2 : m.1.2.1.length <= 140737488355328 := by { simp only [nb_eq] at hok; omega }; omega, cnd_of (fun hd => resq _ _ ?_) (fun hd => ?_)⟩)
 ·unfold tensAR; rw [if_neg (by simpa using hc)]
 ·unfold tensAR; rw [if_pos (by simpa using hc), if_neg (by simpa using hd)]
 simp only [Bool.not_eq_false'] at hc hd
 have A := tab_at (mon_iff.1 hc).at_
 have at1 : ∀ i j : Int, (m.2.2.2.getD i.toNat []).getD j.toNat 0 = atR m.2.2.2 i j := fun _ _ => rfl
 have hR : tensAR m list = (tfR m.2.2.2 (m.1.2.2.2.1.getD m.2.1.toNat 0) list, 0) := by unfold tensAR; rw [if_pos hc, if_pos hd]
 have hu := (mon_iff.1 hc).u
 have S := cat_shape (mon_iff.1 hc).cat
 have iu := S.idn hu.1 hu.2
 have hli := S.li
 refine ⟨hu.1, by omega, ?_⟩
 refine loop_of (fun (s : ((Int × (Int × Unit)) × Unit)) => 0 <= s.1.2.1 /\ s.1.2.1 <= list.length /\ 0 <= s.1.1 /\ s.1.1 < m.1.2.1.length /\ tfR m.2.2.2 (m.1.2.2.2.1.getD m.2.1.toNat 0) list = tfR m.2.2.2 s.1.1 (list.drop s.1.2.1.toNat)) (fun (s : ((Int × (Int × Unit)) × Unit)) => (list.length - s.1.2.1).toNat) ?_ ⟨by simp, by simp, iu.1, iu.2.1, by simp⟩
 rintro ⟨⟨x, i, _⟩, _⟩ next ⟨h0, h1, h2, h3, h4⟩ hn hx hin
 try dsimp only at h0 h1 h2 h3 h4 hn ⊢
 simp only [at1]
 refine cnd_d (fun hi => ?_) (fun hi => resq _ _ ?_)
 ·have li := within_iff.1 hd i h0 hi
  have rx := A.2.1 x h2 h3
  have ax := A.2.2 x _ h2 h3 li.1 li.2
  rw [drop_c list 0 h0 hi] at h4
  refine ⟨h0, hi, h2, by omega, li.1, by omega, by rw [inK64]; (try dsimp only); omega, hn _ ⟨(by first | omega | (dsimp only; omega)), (by first | omega | (dsimp only; omega)), ax.1, ax.2, h4⟩ (by first | omega | (dsimp only; omega))⟩
 ·rw [drop_n list (by omega)] at h4
  rw [hR, h4]; rfl
theorem ct_impl_TensorArrows : CtOk Try.prog 9 c_impl_TensorArrows :=
 ct_by (Φ := ph_impl_TensorArrows) (good_cons ct_impl_Category_arrows (good_cons ct_impl_Monoidal_isMonoidal (good_cons ct_impl_within good_nil))) tab_ok (by kernel_rfl) (fn := Try.f9) (c := bodyOf Try.f9) (by kernel_rfl) (by kernel_rfl) (by kernel_rfl) c_impl_TensorArrows rfl an_impl_TensorArrows (cutL []) (by kernel_rfl) (by kernel_rfl) k_impl_TensorArrows (by decide) (fun x K => W_impl_TensorArrows x.1 x.2.1 K) w_impl_TensorArrows (fun x h1 h2 => m_impl_TensorArrows x.1 x.2.1 h1 h2)
def c_laws_big : Ct := ⟨[(.sl (.int .u8))], [false], fun x => [], [(false, (.fz .bool))], fun x => (decide ((4096 : Int) < x.1.length), ()), false, none⟩
def W_laws_big (code : List Int) (K : Bool × Unit -> Prop) : Prop := (K ((decide (4096 < ((code.length : Nat) : Int))), ()))
theorem w_laws_big (x : denL c_laws_big.args) (K : Bool × Unit -> Prop) : evF tab (lkp []) (cutL []) Try.f7 (bodyOf Try.f7) .n c_laws_big x K = W_laws_big x.1 K := by kernel_rfl
theorem k_laws_big : okC Try.f7.ntmps (cutL []) (bodyOf Try.f7) = true := by kernel_rfl
theorem m_laws_big (code : List Int) (hok : allP (okL c_laws_big.args (code, ()))) (hpre : allP (c_laws_big.pre (code, ()))) : W_laws_big code (fun r => r = c_laws_big.res (code, ())) := by
 simp only [c_laws_big, okL, T.oks, T.ok, ap, allP, true_and, and_true, implies_true] at hok hpre
 try dsimp only [T.den] at hok
 try dsimp only [T.den] at hpre
 unfold W_laws_big
 rfl
theorem ct_laws_big : CtOk Try.prog 7 c_laws_big :=
 ct_by (Φ := lkp []) good_nil tab_ok (by kernel_rfl) (fn := Try.f7) (c := bodyOf Try.f7) (by kernel_rfl) (by kernel_rfl) (by kernel_rfl) c_laws_big rfl .n (cutL []) (by kernel_rfl) (by kernel_rfl) k_laws_big (by decide) (fun x K => W_laws_big x.1 K) w_laws_big (fun x h1 h2 => m_laws_big x.1 h1 h2)
def c1_laws_roll : Ct := ⟨[(.sl (.int .u8)), (.int .u64)], [false, false], fun x => [], [(false, (.pt (.fz spec_l01SourceT)))], fun _ => dfR _, true, none⟩
def Q_laws_roll (code : List Int) (seed : Int) (r0 : spec_l01SourceD) : Prop := SrcR r0
def an_laws_roll : Ann := (.s .n (.s .n (.s (.s .n (.l [(5, (.ad 15 [.de])), (6, (.d (.int .i64)))] [(15, (.pt (.fz (.p (.sl (.int .u8)) (.p (.int .i64) (.int .u64))))))] [0] .n)) .n)))
def W_laws_roll (code : List Int) (seed : Int) (K : spec_l01SourceD × Unit -> Prop) : Prop := (loopW (S := ((Unit × (Int × Unit)) × (((List Int) × (Int × Int)) × Unit))) (fun s => (fun next => ((inK .i64 s.1.2.1) -> ((T.ok (.sl (.int .u8)) s.2.1.1) -> ((inK .i64 s.2.1.2.1) -> ((inK .u64 s.2.1.2.2) -> (cnd (decide (s.1.2.1 < ((code.length : Nat) : Int))) ((0 <= s.1.2.1) /\ ((s.1.2.1 < ((code.length : Nat) : Int)) /\ ((inK .i64 (s.1.2.1 + 1)) /\ (next (((), ((s.1.2.1 + 1), ())), ((s.2.1.1, (s.2.1.2.1, (IntKind.wrap .u64 ((IntKind.wrap .u64 ((IntKind.wrap .u64 (s.2.1.2.2 * 1099511628211)) + (IntKind.wrap .u64 (List.getD code s.1.2.1.toNat 0)))) + 5)))), ())))))) (K (s.2.1, ()))))))))) (((), (0, ())), ((code, (0, (IntKind.wrap .u64 ((IntKind.wrap .u64 (seed * 7681)) + (IntKind.wrap .u64 ((code.length : Nat) : Int)))))), ())))
theorem w_laws_roll (x : denL c1_laws_roll.args) (K : spec_l01SourceD × Unit -> Prop) : evF tab (lkp []) (cutL [(5, 13)]) Try.f12 (bodyOf Try.f12) an_laws_roll c1_laws_roll x K = W_laws_roll x.1 x.2.1 K := by kernel_rfl
theorem k_laws_roll : okC Try.f12.ntmps (cutL [(5, 13)]) (bodyOf Try.f12) = true := by kernel_rfl
theorem m_laws_roll (code : List Int) (seed : Int) (hok : allP (okL c1_laws_roll.args (code, seed, ()))) (hpre : allP (c1_laws_roll.pre (code, seed, ()))) : W_laws_roll code seed (fun r => Q_laws_roll code seed r.1) := by
 simp only [c1_laws_roll, okL, T.oks, T.ok, ap, allP, true_and, and_true, implies_true] at hok hpre
 try dsimp only [T.den] at hok
 try dsimp only [T.den] at hpre
 unfold W_laws_roll Q_laws_roll
 have hl := hok.1.1
 rw [nb_eq] at hl
 refine loop_of (fun (s : ((Unit × (Int × Unit)) × (((List Int) × (Int × Int)) × Unit))) => 0 <= s.1.2.1 /\ s.1.2.1 <= code.length /\ s.2.1.1 = code /\ s.2.1.2.1 = 0 /\ inK .u64 s.2.1.2.2) (fun (s : ((Unit × (Int × Unit)) × (((List Int) × (Int × Int)) × Unit))) => (code.length - s.1.2.1).toNat) ?_ ⟨by simp, by simp, rfl, rfl, wrap_inK _ _⟩
 rintro ⟨⟨_, i, _⟩, ⟨c, a, h⟩, _⟩ next ⟨h0, h1, h2, h3, h4⟩ hn _ _ _ _
 try dsimp only at h0 h1 h2 h3 h4 hn ⊢
 subst h2; subst h3
 refine cnd_d (fun hc => ?_) (fun _ => ⟨?_, Int.le_refl _⟩)
 ·exact ⟨h0, hc, by rw [inK64]; (try dsimp only); omega, hn _ ⟨by dsimp only; omega, by dsimp only; omega, rfl, rfl, wrap_inK _ _⟩ (by first | omega | (dsimp only; omega))⟩
 ·simp only [T.oks, T.ok, ap, allP, and_true]
  exact ⟨hok.1, by rw [inK64]; (try dsimp only); omega, h4⟩
theorem e_laws_roll (code : List Int) (seed : Int) : ∃ q : spec_l01SourceD × Unit, allP (okL c1_laws_roll.args (code, seed, ())) -> allP (c1_laws_roll.pre (code, seed, ())) -> W_laws_roll code seed (fun r => r = q) /\ allP (okR c1_laws_roll.rt q) /\ Q_laws_roll code seed q.1 :=
 pick_by (f := 12) (Φ := lkp []) good_nil tab_ok (by kernel_rfl) (fn := Try.f12) (c := bodyOf Try.f12) (by kernel_rfl) (by kernel_rfl) (by kernel_rfl) c1_laws_roll an_laws_roll (cutL [(5, 13)]) (by kernel_rfl) (by kernel_rfl) k_laws_roll (by decide) (by kernel_rfl) (fun x K => W_laws_roll x.1 x.2.1 K) w_laws_roll (fun x r => Q_laws_roll x.1 x.2.1 r.1) (fun x h1 h2 => m_laws_roll x.1 x.2.1 h1 h2) (code, seed, ())
def laws_roll_r0R (code : List Int) (seed : Int) : spec_l01SourceD := (e_laws_roll code seed).choose.1
theorem q_laws_roll (code : List Int) (seed : Int) (hok : allP (okL c1_laws_roll.args (code, seed, ()))) (hpre : allP (c1_laws_roll.pre (code, seed, ()))) : allP (okR c1_laws_roll.rt (laws_roll_r0R code seed, ())) /\ Q_laws_roll code seed (laws_roll_r0R code seed) := ((e_laws_roll code seed).choose_spec hok hpre).2
def c_laws_roll : Ct := ⟨[(.sl (.int .u8)), (.int .u64)], [false, false], fun x => [], [(false, (.pt (.fz spec_l01SourceT)))], fun x => ((laws_roll_r0R x.1 x.2.1), ()), true, none⟩
theorem w2_laws_roll (x : denL c_laws_roll.args) (K : spec_l01SourceD × Unit -> Prop) : evF tab (lkp []) (cutL [(5, 13)]) Try.f12 (bodyOf Try.f12) an_laws_roll c_laws_roll x K = W_laws_roll x.1 x.2.1 K := by kernel_rfl
theorem ct_laws_roll : CtOk Try.prog 12 c_laws_roll :=
 ct_by (Φ := lkp []) good_nil tab_ok (by kernel_rfl) (fn := Try.f12) (c := bodyOf Try.f12) (by kernel_rfl) (by kernel_rfl) (by kernel_rfl) c_laws_roll rfl an_laws_roll (cutL [(5, 13)]) (by kernel_rfl) (by kernel_rfl) k_laws_roll (by decide) (fun x K => W_laws_roll x.1 x.2.1 K) w2_laws_roll (fun x h1 h2 => ((e_laws_roll x.1 x.2.1).choose_spec h1 h2).1)
theorem roll_p {code : List Int} {seed : Int} (h : allP ((T.sl (.int .u8)).oks code)) (hs : inK .u64 seed) : SrcR (laws_roll_r0R code seed) :=
 (q_laws_roll code seed (by simp only [c1_laws_roll, okL, allP_ap]; exact ⟨h, ⟨hs, trivial⟩, trivial⟩) trivial).2
def c1_spec_l01From : Ct := ⟨[(.sl (.int .u8))], [false], fun x => [], [(false, (.pt (.fz spec_l01SourceT)))], fun _ => dfR _, true, none⟩
def Q_spec_l01From (code : List Int) (r0 : spec_l01SourceD) : Prop := SrcR r0
def an_spec_l01From : Ann := (.s .n (.s .n (.s (.s .n (.l [(3, (.ad 11 [.de])), (4, (.d (.int .i64)))] [(11, (.pt (.fz (.p (.sl (.int .u8)) (.p (.int .i64) (.int .u64))))))] [0] .n)) .n)))
def W_spec_l01From (code : List Int) (K : spec_l01SourceD × Unit -> Prop) : Prop := (loopW (S := ((Unit × (Int × Unit)) × (((List Int) × (Int × Int)) × Unit))) (fun s => (fun next => ((inK .i64 s.1.2.1) -> ((T.ok (.sl (.int .u8)) s.2.1.1) -> ((inK .i64 s.2.1.2.1) -> ((inK .u64 s.2.1.2.2) -> (cnd ((decide (s.1.2.1 < ((code.length : Nat) : Int))) && (decide (s.1.2.1 < 4096))) ((0 <= s.1.2.1) /\ ((s.1.2.1 < ((code.length : Nat) : Int)) /\ ((inK .i64 (s.1.2.1 + 1)) /\ (next (((), ((s.1.2.1 + 1), ())), ((s.2.1.1, (s.2.1.2.1, (IntKind.wrap .u64 ((IntKind.wrap .u64 ((IntKind.wrap .u64 (s.2.1.2.2 * 1099511628211)) + (IntKind.wrap .u64 (List.getD code s.1.2.1.toNat 0)))) + 7)))), ())))))) (K (s.2.1, ()))))))))) (((), (0, ())), ((code, (0, (IntKind.wrap .u64 (7019 + (IntKind.wrap .u64 ((code.length : Nat) : Int)))))), ())))
theorem w_spec_l01From (x : denL c1_spec_l01From.args) (K : spec_l01SourceD × Unit -> Prop) : evF tab (lkp []) (cutL [(5, 13)]) Try.f75 (bodyOf Try.f75) an_spec_l01From c1_spec_l01From x K = W_spec_l01From x.1 K := by kernel_rfl
theorem k_spec_l01From : okC Try.f75.ntmps (cutL [(5, 13)]) (bodyOf Try.f75) = true := by kernel_rfl
theorem m_spec_l01From (code : List Int) (hok : allP (okL c1_spec_l01From.args (code, ()))) (hpre : allP (c1_spec_l01From.pre (code, ()))) : W_spec_l01From code (fun r => Q_spec_l01From code r.1) := by
 simp only [c1_spec_l01From, okL, T.oks, T.ok, ap, allP, true_and, and_true, implies_true] at hok hpre
 try dsimp only [T.den] at hok
 try dsimp only [T.den] at hpre
 unfold W_spec_l01From Q_spec_l01From
 have hl := hok.1
 rw [nb_eq] at hl
 refine loop_of (fun (s : ((Unit × (Int × Unit)) × (((List Int) × (Int × Int)) × Unit))) => 0 <= s.1.2.1 /\ s.1.2.1 <= code.length /\ s.2.1.1 = code /\ s.2.1.2.1 = 0 /\ inK .u64 s.2.1.2.2) (fun (s : ((Unit × (Int × Unit)) × (((List Int) × (Int × Int)) × Unit))) => (code.length - s.1.2.1).toNat) ?_ ⟨by simp, by simp, rfl, rfl, wrap_inK _ _⟩
 rintro ⟨⟨_, i, _⟩, ⟨c, a, h⟩, _⟩ next ⟨h0, h1, h2, h3, h4⟩ hn _ _ _ _
 try dsimp only at h0 h1 h2 h3 h4 hn ⊢
 subst h2; subst h3
 refine cnd_of (fun hc => ?_) (fun _ => ⟨?_, Int.le_refl _⟩)
 ·simp only [Bool.and_eq_true, decide_eq_true_eq] at hc
  exact ⟨h0, hc.1, by rw [inK64]; (try dsimp only); omega, hn _ ⟨by dsimp only; omega, by dsimp only; omega, rfl, rfl, wrap_inK _ _⟩ (by first | omega | (dsimp only; omega))⟩
 ·simp only [T.oks, T.ok, ap, allP, and_true]
  exact ⟨hok, by rw [inK64]; (try dsimp only); omega, h4⟩
theorem e_spec_l01From (code : List Int) : ∃ q : spec_l01SourceD × Unit, allP (okL c1_spec_l01From.args (code, ())) -> allP (c1_spec_l01From.pre (code, ())) -> W_spec_l01From code (fun r => r = q) /\ allP (okR c1_spec_l01From.rt q) /\ Q_spec_l01From code q.1 :=
 pick_by (f := 75) (Φ := lkp []) good_nil tab_ok (by kernel_rfl) (fn := Try.f75) (c := bodyOf Try.f75) (by kernel_rfl) (by kernel_rfl) (by kernel_rfl) c1_spec_l01From an_spec_l01From (cutL [(5, 13)]) (by kernel_rfl) (by kernel_rfl) k_spec_l01From (by decide) (by kernel_rfl) (fun x K => W_spec_l01From x.1 K) w_spec_l01From (fun x r => Q_spec_l01From x.1 r.1) (fun x h1 h2 => m_spec_l01From x.1 h1 h2) (code, ())
def spec_l01From_r0R (code : List Int) : spec_l01SourceD := (e_spec_l01From code).choose.1
theorem q_spec_l01From (code : List Int) (hok : allP (okL c1_spec_l01From.args (code, ()))) (hpre : allP (c1_spec_l01From.pre (code, ()))) : allP (okR c1_spec_l01From.rt (spec_l01From_r0R code, ())) /\ Q_spec_l01From code (spec_l01From_r0R code) := ((e_spec_l01From code).choose_spec hok hpre).2
def c_spec_l01From : Ct := ⟨[(.sl (.int .u8))], [false], fun x => [], [(false, (.pt (.fz spec_l01SourceT)))], fun x => ((spec_l01From_r0R x.1), ()), true, none⟩
theorem w2_spec_l01From (x : denL c_spec_l01From.args) (K : spec_l01SourceD × Unit -> Prop) : evF tab (lkp []) (cutL [(5, 13)]) Try.f75 (bodyOf Try.f75) an_spec_l01From c_spec_l01From x K = W_spec_l01From x.1 K := by kernel_rfl
theorem ct_spec_l01From : CtOk Try.prog 75 c_spec_l01From :=
 ct_by (Φ := lkp []) good_nil tab_ok (by kernel_rfl) (fn := Try.f75) (c := bodyOf Try.f75) (by kernel_rfl) (by kernel_rfl) (by kernel_rfl) c_spec_l01From rfl an_spec_l01From (cutL [(5, 13)]) (by kernel_rfl) (by kernel_rfl) k_spec_l01From (by decide) (fun x K => W_spec_l01From x.1 K) w2_spec_l01From (fun x h1 h2 => ((e_spec_l01From x.1).choose_spec h1 h2).1)
theorem from_p {code : List Int} (h : allP ((T.sl (.int .u8)).oks code)) : SrcR (spec_l01From_r0R code) :=
 (q_spec_l01From code (by simpa only [c1_spec_l01From, okL, allP_ap, allP, and_true] using h) trivial).2
def w1_spec_l01Pick : Wt := ⟨(.pt (.fz spec_l01SourceT)), [(.sl (.int .i64))], [false], fun x y => [SrcR x, 1 <= y.1.length], fun x _ => x, [(false, (.fz (.int .i64)))], fun _ _ => dfR _⟩
def Q_spec_l01Pick (s : spec_l01SourceD) (list : List Int) (z : spec_l01SourceD) (r0 : Int) : Prop := SrcR z /\ r0 ∈ list
def W_spec_l01Pick (s : spec_l01SourceD) (list : List Int) (K : spec_l01SourceD -> (Int × Unit) -> Prop) : Prop := ((0 <= s.2.1) /\ ((0 <= (spec_l01Next_r0R s ((list.length : Nat) : Int))) /\ (((spec_l01Next_r0R s ((list.length : Nat) : Int)) < ((list.length : Nat) : Int)) /\ (K (spec_l01Next_zR s ((list.length : Nat) : Int)) ((List.getD list (Int.toNat (spec_l01Next_r0R s ((list.length : Nat) : Int))) 0), ())))))
theorem w_spec_l01Pick (x : w1_spec_l01Pick.o.strip.den) (y : denL w1_spec_l01Pick.as) (K : spec_l01SourceD -> (Int × Unit) -> Prop) : evFw tab (lkp [(79, c_spec_l01Next)]) (cutL []) Try.f84 (bodyOf Try.f84) .n w1_spec_l01Pick x y K = W_spec_l01Pick x y.1 K := by kernel_rfl
theorem k_spec_l01Pick : okC Try.f84.ntmps (cutL []) (bodyOf Try.f84) = true := by kernel_rfl
theorem m_spec_l01Pick (s : spec_l01SourceD) (list : List Int) (hok : allP (w1_spec_l01Pick.o.strip.oks s)) (hok2 : allP (okL w1_spec_l01Pick.as (list, ()))) (hpre : allP (w1_spec_l01Pick.pre s (list, ()))) : W_spec_l01Pick s list (fun z r => Q_spec_l01Pick s list z r.1) := by
 simp only [w1_spec_l01Pick, O.strip, okL, T.oks, T.ok, ap, allP, true_and, and_true, implies_true] at hok hok2 hpre
 try dsimp only [T.den] at hok
 try dsimp only [T.den] at hok2
 try dsimp only [T.den] at hpre
 unfold W_spec_l01Pick Q_spec_l01Pick
 obtain ⟨hs, hl⟩ := hpre
 have h0 := hok2.1
 rw [nb_eq] at h0
 obtain ⟨h1, h2, h3, _⟩ := next_p (n := list.length) hs (by rw [inK64]; (try dsimp only); omega)
 have h4 := h3 (by omega)
 exact ⟨hs.2, h2, h4, h1, getD_mem list 0 h2 h4⟩
theorem e_spec_l01Pick (s : spec_l01SourceD) (list : List Int) : ∃ q : spec_l01SourceD × (Int × Unit), allP (w1_spec_l01Pick.o.strip.oks s) -> allP (okL w1_spec_l01Pick.as (list, ())) -> allP (w1_spec_l01Pick.pre s (list, ())) -> W_spec_l01Pick s list (fun z r => z = q.1 /\ r = q.2) /\ allP (w1_spec_l01Pick.o.strip.oks q.1) /\ allP (okR w1_spec_l01Pick.rt q.2) /\ Q_spec_l01Pick s list q.1 q.2.1 :=
 pick_wy (f := 84) (Φ := lkp [(79, c_spec_l01Next)]) (good_cons ct_spec_l01Next good_nil) tab_ok (by kernel_rfl) (fn := Try.f84) (c := bodyOf Try.f84) (by kernel_rfl) (by kernel_rfl) (by kernel_rfl) w1_spec_l01Pick .n (cutL []) (by kernel_rfl) (by kernel_rfl) k_spec_l01Pick (by decide) (by kernel_rfl) (by kernel_rfl) spec_l01SourceT rfl (by kernel_rfl) (fun x y K => W_spec_l01Pick x y.1 K) w_spec_l01Pick (fun x y z r => Q_spec_l01Pick x y.1 z r.1) (fun x y h1 h2 h3 => m_spec_l01Pick x y.1 h1 h2 h3) s (list, ())
def spec_l01Pick_zR (s : spec_l01SourceD) (list : List Int) : spec_l01SourceD := (e_spec_l01Pick s list).choose.1
def spec_l01Pick_r0R (s : spec_l01SourceD) (list : List Int) : Int := (e_spec_l01Pick s list).choose.2.1
theorem q_spec_l01Pick (s : spec_l01SourceD) (list : List Int) (hok : allP (w1_spec_l01Pick.o.strip.oks s)) (hok2 : allP (okL w1_spec_l01Pick.as (list, ()))) (hpre : allP (w1_spec_l01Pick.pre s (list, ()))) : allP (w1_spec_l01Pick.o.strip.oks (spec_l01Pick_zR s list)) /\ allP (okR w1_spec_l01Pick.rt (spec_l01Pick_r0R s list, ())) /\ Q_spec_l01Pick s list (spec_l01Pick_zR s list) (spec_l01Pick_r0R s list) := ((e_spec_l01Pick s list).choose_spec hok hok2 hpre).2
def w0_spec_l01Pick : Wt := ⟨(.pt (.fz spec_l01SourceT)), [(.sl (.int .i64))], [false], fun x y => [SrcR x, 1 <= y.1.length], fun x y => (spec_l01Pick_zR x y.1), [(false, (.fz (.int .i64)))], fun x y => ((spec_l01Pick_r0R x y.1), ())⟩
def c_spec_l01Pick : Ct := wtCt w0_spec_l01Pick
theorem w2_spec_l01Pick (x : w0_spec_l01Pick.o.strip.den) (y : denL w0_spec_l01Pick.as) (K : spec_l01SourceD -> (Int × Unit) -> Prop) : evFw tab (lkp [(79, c_spec_l01Next)]) (cutL []) Try.f84 (bodyOf Try.f84) .n w0_spec_l01Pick x y K = W_spec_l01Pick x y.1 K := by kernel_rfl
theorem ct_spec_l01Pick : CtOk Try.prog 84 c_spec_l01Pick :=
 wt_of (Φ := lkp [(79, c_spec_l01Next)]) (good_cons ct_spec_l01Next good_nil) tab_ok (by kernel_rfl) (fn := Try.f84) (c := bodyOf Try.f84) (by kernel_rfl) (by kernel_rfl) (by kernel_rfl) w0_spec_l01Pick .n (cutL []) (by kernel_rfl) (by kernel_rfl) k_spec_l01Pick (by decide) (by kernel_rfl) (fun x y h1 h2 h3 => (w2_spec_l01Pick x y _).mpr ((e_spec_l01Pick x y.1).choose_spec h1 h2 h3).1)
theorem pick_p {s : spec_l01SourceD} {l : List Int} (h : SrcR s) (hl : allP ((T.sl (.int .i64)).oks l)) (hn : 1 <= l.length) : SrcR (spec_l01Pick_zR s l) /\ spec_l01Pick_r0R s l ∈ l :=
 (q_spec_l01Pick s l h.1 (by simpa only [w1_spec_l01Pick, okL, allP_ap, allP, and_true] using hl) ⟨h, hn, trivial⟩).2.2
def w1_spec_l02Number : Wt := ⟨(.pt (.fz spec_l01SourceT)), [(.int .i64)], [false], fun x y => [SrcR x], fun x _ => x, [(false, (.fz (.int .i64)))], fun _ _ => dfR _⟩
def Q_spec_l02Number (s : spec_l01SourceD) (n : Int) (z : spec_l01SourceD) (r0 : Int) : Prop := SrcR z
def ph_spec_l02Number : FuncId -> Option Ct := lkp [(79, c_spec_l01Next), (84, c_spec_l01Pick)]
def W_spec_l02Number (s : spec_l01SourceD) (n : Int) (K : spec_l01SourceD -> (Int × Unit) -> Prop) : Prop := ((0 <= s.2.1) /\ (cnd ((spec_l01Next_r0R s 40) == 0) ((SrcR (spec_l01Next_zR s 40)) /\ ((1 <= (List.length ((-1) :: (n :: (9223372036854775807 :: ((-9223372036854775808) :: [])))))) /\ (K (spec_l01Pick_zR (spec_l01Next_zR s 40) ((-1) :: (n :: (9223372036854775807 :: ((-9223372036854775808) :: []))))) ((spec_l01Pick_r0R (spec_l01Next_zR s 40) ((-1) :: (n :: (9223372036854775807 :: ((-9223372036854775808) :: []))))), ())))) ((0 <= (spec_l01Next_zR s 40).2.1) /\ (K (spec_l01Next_zR (spec_l01Next_zR s 40) n) ((spec_l01Next_r0R (spec_l01Next_zR s 40) n), ())))))
theorem w_spec_l02Number (x : w1_spec_l02Number.o.strip.den) (y : denL w1_spec_l02Number.as) (K : spec_l01SourceD -> (Int × Unit) -> Prop) : evFw tab ph_spec_l02Number (cutL []) Try.f77 (bodyOf Try.f77) .n w1_spec_l02Number x y K = W_spec_l02Number x y.1 K := by kernel_rfl
theorem k_spec_l02Number : okC Try.f77.ntmps (cutL []) (bodyOf Try.f77) = true := by kernel_rfl
theorem m_spec_l02Number (s : spec_l01SourceD) (n : Int) (hok : allP (w1_spec_l02Number.o.strip.oks s)) (hok2 : allP (okL w1_spec_l02Number.as (n, ()))) (hpre : allP (w1_spec_l02Number.pre s (n, ()))) : W_spec_l02Number s n (fun z r => Q_spec_l02Number s n z r.1) := by
 simp only [w1_spec_l02Number, O.strip, okL, T.oks, T.ok, ap, allP, true_and, and_true, implies_true] at hok hok2 hpre
 try dsimp only [T.den] at hok
 try dsimp only [T.den] at hok2
 try dsimp only [T.den] at hpre
 unfold W_spec_l02Number Q_spec_l02Number
 have h1 := next_p (n := 40) hpre (by rw [inK64]; (try dsimp only); omega)
 refine ⟨hpre.2, cnd_of (fun hc => ?_) (fun hc => ?_)⟩
 ·exact ⟨h1.1, by simp, (pick_p h1.1 (by simp [T.oks, T.ok, allP, inK64, nb_eq]; have := inK64.1 hok2; omega) (by simp)).1⟩
 ·exact ⟨h1.1.2, (next_p h1.1 hok2).1⟩
theorem e_spec_l02Number (s : spec_l01SourceD) (n : Int) : ∃ q : spec_l01SourceD × (Int × Unit), allP (w1_spec_l02Number.o.strip.oks s) -> allP (okL w1_spec_l02Number.as (n, ())) -> allP (w1_spec_l02Number.pre s (n, ())) -> W_spec_l02Number s n (fun z r => z = q.1 /\ r = q.2) /\ allP (w1_spec_l02Number.o.strip.oks q.1) /\ allP (okR w1_spec_l02Number.rt q.2) /\ Q_spec_l02Number s n q.1 q.2.1 :=
 pick_wy (f := 77) (Φ := ph_spec_l02Number) (good_cons ct_spec_l01Next (good_cons ct_spec_l01Pick good_nil)) tab_ok (by kernel_rfl) (fn := Try.f77) (c := bodyOf Try.f77) (by kernel_rfl) (by kernel_rfl) (by kernel_rfl) w1_spec_l02Number .n (cutL []) (by kernel_rfl) (by kernel_rfl) k_spec_l02Number (by decide) (by kernel_rfl) (by kernel_rfl) spec_l01SourceT rfl (by kernel_rfl) (fun x y K => W_spec_l02Number x y.1 K) w_spec_l02Number (fun x y z r => Q_spec_l02Number x y.1 z r.1) (fun x y h1 h2 h3 => m_spec_l02Number x y.1 h1 h2 h3) s (n, ())
def spec_l02Number_zR (s : spec_l01SourceD) (n : Int) : spec_l01SourceD := (e_spec_l02Number s n).choose.1
def spec_l02Number_r0R (s : spec_l01SourceD) (n : Int) : Int := (e_spec_l02Number s n).choose.2.1
theorem q_spec_l02Number (s : spec_l01SourceD) (n : Int) (hok : allP (w1_spec_l02Number.o.strip.oks s)) (hok2 : allP (okL w1_spec_l02Number.as (n, ()))) (hpre : allP (w1_spec_l02Number.pre s (n, ()))) : allP (w1_spec_l02Number.o.strip.oks (spec_l02Number_zR s n)) /\ allP (okR w1_spec_l02Number.rt (spec_l02Number_r0R s n, ())) /\ Q_spec_l02Number s n (spec_l02Number_zR s n) (spec_l02Number_r0R s n) := ((e_spec_l02Number s n).choose_spec hok hok2 hpre).2
def w0_spec_l02Number : Wt := ⟨(.pt (.fz spec_l01SourceT)), [(.int .i64)], [false], fun x y => [SrcR x], fun x y => (spec_l02Number_zR x y.1), [(false, (.fz (.int .i64)))], fun x y => ((spec_l02Number_r0R x y.1), ())⟩
def c_spec_l02Number : Ct := wtCt w0_spec_l02Number
theorem w2_spec_l02Number (x : w0_spec_l02Number.o.strip.den) (y : denL w0_spec_l02Number.as) (K : spec_l01SourceD -> (Int × Unit) -> Prop) : evFw tab ph_spec_l02Number (cutL []) Try.f77 (bodyOf Try.f77) .n w0_spec_l02Number x y K = W_spec_l02Number x y.1 K := by kernel_rfl
theorem ct_spec_l02Number : CtOk Try.prog 77 c_spec_l02Number :=
 wt_of (Φ := ph_spec_l02Number) (good_cons ct_spec_l01Next (good_cons ct_spec_l01Pick good_nil)) tab_ok (by kernel_rfl) (fn := Try.f77) (c := bodyOf Try.f77) (by kernel_rfl) (by kernel_rfl) (by kernel_rfl) w0_spec_l02Number .n (cutL []) (by kernel_rfl) (by kernel_rfl) k_spec_l02Number (by decide) (by kernel_rfl) (fun x y h1 h2 h3 => (w2_spec_l02Number x y _).mpr ((e_spec_l02Number x y.1).choose_spec h1 h2 h3).1)
theorem number_p {s : spec_l01SourceD} {n : Int} (h : SrcR s) (hn : inK .i64 n) : SrcR (spec_l02Number_zR s n) /\ inK .i64 (spec_l02Number_r0R s n) := by
 obtain ⟨_, h1, h2⟩ := q_spec_l02Number s n h.1 (by simp only [w1_spec_l02Number, okL, T.oks, ap, allP, and_true]; exact hn) ⟨h, trivial⟩
 exact ⟨h2, h1.1⟩
def c_spec_l01Own : Ct := ⟨[(.sl (.int .i64))], [false], fun x => [x.1.length <= 1099511627776], [(false, (.sl (.fz (.int .i64))))], fun x => (x.1, ()), false, none⟩
def W_spec_l01Own (list : List Int) (K : (List Int) × Unit -> Prop) : Prop := ((room 0 list.length 8) /\ (K (list, ())))
theorem w_spec_l01Own (x : denL c_spec_l01Own.args) (K : (List Int) × Unit -> Prop) : evF tab (lkp []) (cutL []) Try.f59 (bodyOf Try.f59) .n c_spec_l01Own x K = W_spec_l01Own x.1 K := by kernel_rfl
theorem k_spec_l01Own : okC Try.f59.ntmps (cutL []) (bodyOf Try.f59) = true := by kernel_rfl
theorem m_spec_l01Own (list : List Int) (hok : allP (okL c_spec_l01Own.args (list, ()))) (hpre : allP (c_spec_l01Own.pre (list, ()))) : W_spec_l01Own list (fun r => r = c_spec_l01Own.res (list, ())) := by
 simp only [c_spec_l01Own, okL, T.oks, T.ok, ap, allP, true_and, and_true, implies_true] at hok hpre
 try dsimp only [T.den] at hok
 try dsimp only [T.den] at hpre
 unfold W_spec_l01Own
 have hl : list.length <= 1099511627776 := hpre
 exact ⟨room_of (by omega), rfl⟩
theorem ct_spec_l01Own : CtOk Try.prog 59 c_spec_l01Own :=
 ct_by (Φ := lkp []) good_nil tab_ok (by kernel_rfl) (fn := Try.f59) (c := bodyOf Try.f59) (by kernel_rfl) (by kernel_rfl) (by kernel_rfl) c_spec_l01Own rfl .n (cutL []) (by kernel_rfl) (by kernel_rfl) k_spec_l01Own (by decide) (fun x K => W_spec_l01Own x.1 K) w_spec_l01Own (fun x h1 h2 => m_spec_l01Own x.1 h1 h2)
structure OwnP (l : List (List Int)) : Prop where
 n : l.length <= 1099511627776
 e : ∀ r ∈ l, r.length <= 1099511627776
def c_spec_l01Own2 : Ct := ⟨[(.sl (.sl (.int .i64)))], [false], fun x => [OwnP x.1], [(false, (.sl (.sl (.fz (.int .i64)))))], fun x => (x.1, ()), false, none⟩
def an_spec_l01Own2 : Ann := (.s .n (.s .n (.s (.s .n (.l [(3, (.ref 800003 [])), (4, (.d (.int .i64)))] [(800003, (.sl (.sl (.fz (.int .i64)))))] [0] .n)) .n)))
def W_spec_l01Own2 (lists : List (List Int)) (K : (List (List Int)) × Unit -> Prop) : Prop := (loopW (S := ((Unit × (Int × Unit)) × ((List (List Int)) × Unit))) (fun s => (fun next => ((inK .i64 s.1.2.1) -> ((T.ok (.sl (.sl (.int .i64))) s.2.1) -> (cnd (decide (s.1.2.1 < ((lists.length : Nat) : Int))) ((0 <= s.1.2.1) /\ ((s.1.2.1 < ((lists.length : Nat) : Int)) /\ (((List.length (List.getD lists s.1.2.1.toNat [])) <= 1099511627776) /\ ((room s.2.1.length (List.length ((List.getD lists s.1.2.1.toNat []) :: [])) 24) /\ ((inK .i64 (s.1.2.1 + 1)) /\ (next (((), ((s.1.2.1 + 1), ())), ((s.2.1 ++ ((List.getD lists s.1.2.1.toNat []) :: [])), ())))))))) (K (s.2.1, ()))))))) (((), (0, ())), ([], ())))
theorem w_spec_l01Own2 (x : denL c_spec_l01Own2.args) (K : (List (List Int)) × Unit -> Prop) : evF tab (lkp [(59, c_spec_l01Own)]) (cutL []) Try.f155 (bodyOf Try.f155) an_spec_l01Own2 c_spec_l01Own2 x K = W_spec_l01Own2 x.1 K := by kernel_rfl
theorem k_spec_l01Own2 : okC Try.f155.ntmps (cutL []) (bodyOf Try.f155) = true := by kernel_rfl
theorem m_spec_l01Own2 (lists : List (List Int)) (hok : allP (okL c_spec_l01Own2.args (lists, ()))) (hpre : allP (c_spec_l01Own2.pre (lists, ()))) : W_spec_l01Own2 lists (fun r => r = c_spec_l01Own2.res (lists, ())) := by
 simp only [c_spec_l01Own2, okL, T.oks, T.ok, ap, allP, true_and, and_true, implies_true] at hok hpre
 try dsimp only [T.den] at hok
 try dsimp only [T.den] at hpre
 unfold W_spec_l01Own2
 have h1 := hpre.n
 have h2 := hpre.e
 clear hok
 refine loop_ixa (fun i => lists.take i.toNat) (n := lists.length) (by omega) rfl ?_ ?_
 ·intro i next i0 i1 hn _ _
  try dsimp only at hn ⊢
  rw [take_c lists [] i0 i1] at hn
  exact cnd_d (fun _ => ⟨i0, i1, h2 _ (getD_mem lists [] i0 i1), room_of (by rw [List.length_take]; simp only [List.length_cons, List.length_nil]; omega), by rw [inK64]; (try dsimp only); omega, hn⟩) (fun h => absurd i1 h)
 ·intro next _ _
  refine cnd_d (fun h => absurd h (Int.lt_irrefl _)) (fun _ => ?_)
  simp only [c_spec_l01Own2]
  rw [take_n _ (Int.le_refl _)]
theorem ct_spec_l01Own2 : CtOk Try.prog 155 c_spec_l01Own2 :=
 ct_by (Φ := lkp [(59, c_spec_l01Own)]) (good_cons ct_spec_l01Own good_nil) tab_ok (by kernel_rfl) (fn := Try.f155) (c := bodyOf Try.f155) (by kernel_rfl) (by kernel_rfl) (by kernel_rfl) c_spec_l01Own2 rfl an_spec_l01Own2 (cutL []) (by kernel_rfl) (by kernel_rfl) k_spec_l01Own2 (by decide) (fun x K => W_spec_l01Own2 x.1 K) w_spec_l01Own2 (fun x h1 h2 => m_spec_l01Own2 x.1 h1 h2)
def monoR (t : List (List Int)) : CategoryD := (1, (List.replicate t.length 0, (List.replicate t.length 0, ([0], t))))
def c_spec_l03Monoid : Ct := ⟨[(.sl (.sl (.int .i64)))], [false], fun x => [OwnP x.1], [(true, CategoryO)], fun x => (monoR x.1, ()), false, none⟩
def W_spec_l03Monoid (table : List (List Int)) (K : CategoryD × Unit -> Prop) : Prop := ((0 <= ((table.length : Nat) : Int)) /\ ((((table.length : Nat) : Int) <= ((table.length : Nat) : Int)) /\ ((((table.length : Nat) : Int) <= ((140737488355328 : Nat) : Int)) /\ (((((table.length : Nat) : Int) * ((8 : Nat) : Int)) <= ((140737488355328 : Nat) : Int)) /\ ((0 <= ((table.length : Nat) : Int)) /\ ((((table.length : Nat) : Int) <= ((table.length : Nat) : Int)) /\ ((((table.length : Nat) : Int) <= ((140737488355328 : Nat) : Int)) /\ (((((table.length : Nat) : Int) * ((8 : Nat) : Int)) <= ((140737488355328 : Nat) : Int)) /\ ((OwnP table) /\ (K ((1, ((List.replicate (Int.toNat ((table.length : Nat) : Int)) (0 :Int)), ((List.replicate (Int.toNat ((table.length : Nat) : Int)) (0 :Int)), ((0 :: []), table)))), ())))))))))))
theorem w_spec_l03Monoid (x : denL c_spec_l03Monoid.args) (K : CategoryD × Unit -> Prop) : evF tab (lkp [(155, c_spec_l01Own2)]) (cutL [(2, 507)]) Try.f151 (bodyOf Try.f151) .n c_spec_l03Monoid x K = W_spec_l03Monoid x.1 K := by kernel_rfl
theorem k_spec_l03Monoid : okC Try.f151.ntmps (cutL [(2, 507)]) (bodyOf Try.f151) = true := by kernel_rfl
theorem m_spec_l03Monoid (table : List (List Int)) (hok : allP (okL c_spec_l03Monoid.args (table, ()))) (hpre : allP (c_spec_l03Monoid.pre (table, ()))) : W_spec_l03Monoid table (fun r => r = c_spec_l03Monoid.res (table, ())) := by
 simp only [c_spec_l03Monoid, okL, T.oks, T.ok, ap, allP, true_and, and_true, implies_true] at hok hpre
 try dsimp only [T.den] at hok
 try dsimp only [T.den] at hpre
 unfold W_spec_l03Monoid
 have hl := hpre.n
 refine ⟨by omega, Int.le_refl _, by omega, by omega, by omega, Int.le_refl _, by omega, by omega, hpre, ?_⟩
 simp only [c_spec_l03Monoid, monoR, Int.toNat_natCast]
theorem ct_spec_l03Monoid : CtOk Try.prog 151 c_spec_l03Monoid :=
 ct_by (Φ := lkp [(155, c_spec_l01Own2)]) (good_cons ct_spec_l01Own2 good_nil) tab_ok (by kernel_rfl) (fn := Try.f151) (c := bodyOf Try.f151) (by kernel_rfl) (by kernel_rfl) (by kernel_rfl) c_spec_l03Monoid rfl .n (cutL [(2, 507)]) (by kernel_rfl) (by kernel_rfl) k_spec_l03Monoid (by decide) (fun x K => W_spec_l03Monoid x.1 K) w_spec_l03Monoid (fun x h1 h2 => m_spec_l03Monoid x.1 h1 h2)
def c_spec_l01Map : Ct := ⟨[(.int .i64), (.sl (.int .i64))], [false, false], fun x => [], [(false, (.fz .bool))], fun x => (withinR x.2.1 x.1, ()), false, none⟩
def an_spec_l01Map : Ann := (.s .n (.s (.s .n (.l [(5, (.d (.int .i64)))] [] [0, 1] .n)) .n))
def W_spec_l01Map (n : Int) (f : List Int) (K : Bool × Unit -> Prop) : Prop := (loopW (S := ((Int × Unit) × Unit)) (fun s => (fun next => ((inK .i64 s.1.1) -> (cnd (decide (s.1.1 < ((f.length : Nat) : Int))) ((0 <= s.1.1) /\ ((s.1.1 < ((f.length : Nat) : Int)) /\ ((((decide ((List.getD f s.1.1.toNat 0) < 0)) = false) -> ((s.1.1 < ((f.length : Nat) : Int)) /\ (0 <= s.1.1))) /\ (cnd ((decide ((List.getD f s.1.1.toNat 0) < 0)) || (decide (n <= (List.getD f s.1.1.toNat 0)))) (K (false, ())) ((inK .i64 (s.1.1 + 1)) /\ (next (((s.1.1 + 1), ()), ()))))))) (K (true, ())))))) ((0, ()), ()))
theorem w_spec_l01Map (x : denL c_spec_l01Map.args) (K : Bool × Unit -> Prop) : evF tab (lkp []) (cutL []) Try.f42 (bodyOf Try.f42) an_spec_l01Map c_spec_l01Map x K = W_spec_l01Map x.1 x.2.1 K := by kernel_rfl
theorem k_spec_l01Map : okC Try.f42.ntmps (cutL []) (bodyOf Try.f42) = true := by kernel_rfl
theorem m_spec_l01Map (n : Int) (f : List Int) (hok : allP (okL c_spec_l01Map.args (n, f, ()))) (hpre : allP (c_spec_l01Map.pre (n, f, ()))) : W_spec_l01Map n f (fun r => r = c_spec_l01Map.res (n, f, ())) := by
 simp only [c_spec_l01Map, okL, T.oks, T.ok, ap, allP, true_and, and_true, implies_true] at hok hpre
 try dsimp only [T.den] at hok
 try dsimp only [T.den] at hpre
 unfold W_spec_l01Map
 refine loop_of (fun (s : ((Int × Unit) × Unit)) => 0 <= s.1.1 /\ s.1.1 <= f.length /\ withinR f n = withinR (f.drop s.1.1.toNat) n) (fun (s : ((Int × Unit) × Unit)) => (f.length - s.1.1).toNat) ?_ (by simp)
 rintro ⟨⟨i, _⟩, _⟩ next ⟨h0, h1, h2⟩ hn hin
 simp only at h0 h1 h2 hn ⊢
 refine cnd_d (fun hc => ?_) (fun hc => ?_)
 ·rw [drop_c f 0 h0 hc] at h2
  simp only [withinR, List.all_cons] at h2
  grind [cnd, nb_eq, inK64, c_spec_l01Map, withinR, inR]
 ·rw [drop_n f (by omega)] at h2
  grind [cnd, nb_eq, inK64, c_spec_l01Map, withinR]
theorem ct_spec_l01Map : CtOk Try.prog 42 c_spec_l01Map :=
 ct_by (Φ := lkp []) good_nil tab_ok (by kernel_rfl) (fn := Try.f42) (c := bodyOf Try.f42) (by kernel_rfl) (by kernel_rfl) (by kernel_rfl) c_spec_l01Map rfl an_spec_l01Map (cutL []) (by kernel_rfl) (by kernel_rfl) k_spec_l01Map (by decide) (fun x K => W_spec_l01Map x.1 x.2.1 K) w_spec_l01Map (fun x h1 h2 => m_spec_l01Map x.1 x.2.1 h1 h2)
def c_spec_l03Square : Ct := ⟨[(.sl (.sl (.int .i64))), (.int .i64)], [false, false], fun x => [], [(false, (.fz .bool))], fun x => (squareR x.1 x.2.1, ()), false, none⟩
def an_spec_l03Square : Ann := (.s .n (.s (.s .n (.l [(5, (.d (.int .i64)))] [] [0, 1] .n)) .n))
def W_spec_l03Square (table : List (List Int)) (bound : Int) (K : Bool × Unit -> Prop) : Prop := (loopW (S := ((Int × Unit) × Unit)) (fun s => (fun next => ((inK .i64 s.1.1) -> (cnd (decide (s.1.1 < ((table.length : Nat) : Int))) ((0 <= s.1.1) /\ ((s.1.1 < ((table.length : Nat) : Int)) /\ (((((((List.length (List.getD table s.1.1.toNat [])) : Nat) : Int) != ((table.length : Nat) : Int)) = false) -> ((s.1.1 < ((table.length : Nat) : Int)) /\ (0 <= s.1.1))) /\ (cnd (((((List.length (List.getD table s.1.1.toNat [])) : Nat) : Int) != ((table.length : Nat) : Int)) || (!(withinR (List.getD table s.1.1.toNat []) bound))) (K (false, ())) ((inK .i64 (s.1.1 + 1)) /\ (next (((s.1.1 + 1), ()), ()))))))) (K (true, ())))))) ((0, ()), ()))
theorem w_spec_l03Square (x : denL c_spec_l03Square.args) (K : Bool × Unit -> Prop) : evF tab (lkp [(42, c_spec_l01Map)]) (cutL []) Try.f129 (bodyOf Try.f129) an_spec_l03Square c_spec_l03Square x K = W_spec_l03Square x.1 x.2.1 K := by kernel_rfl
theorem k_spec_l03Square : okC Try.f129.ntmps (cutL []) (bodyOf Try.f129) = true := by kernel_rfl
theorem m_spec_l03Square (table : List (List Int)) (bound : Int) (hok : allP (okL c_spec_l03Square.args (table, bound, ()))) (hpre : allP (c_spec_l03Square.pre (table, bound, ()))) : W_spec_l03Square table bound (fun r => r = c_spec_l03Square.res (table, bound, ())) := by
 simp only [c_spec_l03Square, okL, T.oks, T.ok, ap, allP, true_and, and_true, implies_true] at hok hpre
 try dsimp only [T.den] at hok
 try dsimp only [T.den] at hpre
 unfold W_spec_l03Square
 have hl : table.length <= 140737488355328 := by simp only [nb_eq] at hok; omega
 have bad : ¬ (squareR table bound = true) -> (false, ()) = c_spec_l03Square.res (table, bound, ()) := fun h => by
  simp only [c_spec_l03Square]
  cases hs : squareR table bound with
  | false => rfl
  | true => exact absurd hs h
 refine loop_ix (n := table.length) (fun i => ∀ j : Int, 0 <= j -> j < i -> (table.getD j.toNat []).length = table.length /\ withinR (table.getD j.toNat []) bound = true) (by omega) (by intro y h0 h1; omega) ?_ ?_
 ·intro i next h0 h1 hP hn hin
  try dsimp only
  refine cnd_d (fun _ => ⟨h0, h1, fun _ => ⟨h1, h0⟩, cnd_of (fun hx => bad fun h => ?_) (fun hx => ⟨by rw [inK64]; (try dsimp only); omega, hn fun j j0 j1 => ?_⟩)⟩) (fun h => absurd h1 h)
  ·have := square_iff.1 h i h0 h1
   rw [this.1, this.2] at hx; simp at hx
  ·by_cases e : j = i
   ·subst e
    simp only [Bool.or_eq_false_iff, Bool.not_eq_false', bne_eq_false_iff_eq] at hx
    exact ⟨by omega, hx.2⟩
   ·exact hP j j0 (by omega)
 ·intro next hP hin
  refine cnd_d (fun h => absurd h (by dsimp only; omega)) (fun _ => ?_)
  simp only [c_spec_l03Square]
  rw [square_iff.2 hP]
theorem ct_spec_l03Square : CtOk Try.prog 129 c_spec_l03Square :=
 ct_by (Φ := lkp [(42, c_spec_l01Map)]) (good_cons ct_spec_l01Map good_nil) tab_ok (by kernel_rfl) (fn := Try.f129) (c := bodyOf Try.f129) (by kernel_rfl) (by kernel_rfl) (by kernel_rfl) c_spec_l03Square rfl an_spec_l03Square (cutL []) (by kernel_rfl) (by kernel_rfl) k_spec_l03Square (by decide) (fun x K => W_spec_l03Square x.1 x.2.1 K) w_spec_l03Square (fun x h1 h2 => m_spec_l03Square x.1 x.2.1 h1 h2)
def c_spec_l35Whole : Ct := ⟨[(.sl (.sl (.int .i64))), (.int .i64)], [false, false], fun x => [tabR x.1 x.1.length = true, x.1.length <= 40, 0 <= x.2.1, x.2.1 < x.1.length], [(false, (.fz .bool))], fun x => (assocR x.1 x.2.1, ()), false, none⟩
def an_spec_l35Whole : Ann := (.s .n (.s (.s .n (.l [(5, (.d (.int .i64)))] [] [0, 1] (.s .n (.s (.s .n (.s .n (.l [(6, (.d (.int .i64)))] [] [0, 1, 5] (.s .n (.s (.s .n (.l [(7, (.d (.int .i64)))] [] [0, 1, 5, 6] .n)) .n))))) .n)))) .n))
def W_spec_l35Whole (table : List (List Int)) (unit : Int) (K : Bool × Unit -> Prop) : Prop := (loopW (S := ((Int × Unit) × Unit)) (fun s => (fun next => ((inK .i64 s.1.1) -> (cnd (decide (s.1.1 < ((table.length : Nat) : Int))) ((0 <= unit) /\ ((unit < ((table.length : Nat) : Int)) /\ ((0 <= s.1.1) /\ ((s.1.1 < (((List.length (List.getD table unit.toNat [])) : Nat) : Int)) /\ (((((List.getD (List.getD table unit.toNat []) s.1.1.toNat 0) != s.1.1) = false) -> ((s.1.1 < ((table.length : Nat) : Int)) /\ (0 <= s.1.1))) /\ (((((List.getD (List.getD table unit.toNat []) s.1.1.toNat 0) != s.1.1) = false) -> ((unit < (((List.length (List.getD table s.1.1.toNat [])) : Nat) : Int)) /\ (0 <= unit))) /\ (cnd (((List.getD (List.getD table unit.toNat []) s.1.1.toNat 0) != s.1.1) || ((List.getD (List.getD table s.1.1.toNat []) unit.toNat 0) != s.1.1)) (K (false, ())) (loopW (S := ((Int × Unit) × Unit)) (fun s1 => (fun next1 => ((inK .i64 s1.1.1) -> (cnd (decide (s1.1.1 < ((table.length : Nat) : Int))) (loopW (S := ((Int × Unit) × Unit)) (fun s2 => (fun next2 => ((inK .i64 s2.1.1) -> (cnd (decide (s2.1.1 < ((table.length : Nat) : Int))) ((0 <= s.1.1) /\ ((s.1.1 < ((table.length : Nat) : Int)) /\ ((0 <= s1.1.1) /\ ((s1.1.1 < (((List.length (List.getD table s.1.1.toNat [])) : Nat) : Int)) /\ ((0 <= (List.getD (List.getD table s.1.1.toNat []) s1.1.1.toNat 0)) /\ (((List.getD (List.getD table s.1.1.toNat []) s1.1.1.toNat 0) < ((table.length : Nat) : Int)) /\ ((0 <= s2.1.1) /\ ((s2.1.1 < (((List.length (List.getD table (Int.toNat (List.getD (List.getD table s.1.1.toNat []) s1.1.1.toNat 0)) [])) : Nat) : Int)) /\ ((0 <= s.1.1) /\ ((s.1.1 < ((table.length : Nat) : Int)) /\ ((0 <= s1.1.1) /\ ((s1.1.1 < ((table.length : Nat) : Int)) /\ ((0 <= s2.1.1) /\ ((s2.1.1 < (((List.length (List.getD table s1.1.1.toNat [])) : Nat) : Int)) /\ ((0 <= (List.getD (List.getD table s1.1.1.toNat []) s2.1.1.toNat 0)) /\ (((List.getD (List.getD table s1.1.1.toNat []) s2.1.1.toNat 0) < (((List.length (List.getD table s.1.1.toNat [])) : Nat) : Int)) /\ (cnd ((List.getD (List.getD table (Int.toNat (List.getD (List.getD table s.1.1.toNat []) s1.1.1.toNat 0)) []) s2.1.1.toNat 0) != (List.getD (List.getD table s.1.1.toNat []) (Int.toNat (List.getD (List.getD table s1.1.1.toNat []) s2.1.1.toNat 0)) 0)) (K (false, ())) ((inK .i64 (s2.1.1 + 1)) /\ (next2 (((s2.1.1 + 1), ()), ())))))))))))))))))))) ((inK .i64 (s1.1.1 + 1)) /\ (next1 (((s1.1.1 + 1), ()), ()))))))) ((0, ()), ())) ((inK .i64 (s.1.1 + 1)) /\ (next (((s.1.1 + 1), ()), ()))))))) ((0, ()), ()))))))))) (K (true, ())))))) ((0, ()), ()))
theorem w_spec_l35Whole (x : denL c_spec_l35Whole.args) (K : Bool × Unit -> Prop) : evF tab (lkp []) (cutL [(12, 27)]) Try.f105 (bodyOf Try.f105) an_spec_l35Whole c_spec_l35Whole x K = W_spec_l35Whole x.1 x.2.1 K := by kernel_rfl
theorem k_spec_l35Whole : okC Try.f105.ntmps (cutL [(12, 27)]) (bodyOf Try.f105) = true := by kernel_rfl
theorem m_spec_l35Whole (table : List (List Int)) (unit : Int) (hok : allP (okL c_spec_l35Whole.args (table, unit, ()))) (hpre : allP (c_spec_l35Whole.pre (table, unit, ()))) : W_spec_l35Whole table unit (fun r => r = c_spec_l35Whole.res (table, unit, ())) := by
 simp only [c_spec_l35Whole, okL, T.oks, T.ok, ap, allP, true_and, and_true, implies_true] at hok hpre
 try dsimp only [T.den] at hok
 try dsimp only [T.den] at hpre
 unfold W_spec_l35Whole
 have T := tab_at hpre.1
 have hl := hpre.2.1
 have u0 := hpre.2.2.1
 have u1 := hpre.2.2.2
 have bad : ¬ (assocR table unit = true) -> (false, ()) = c_spec_l35Whole.res (table, unit, ()) := fun h => by
  simp only [c_spec_l35Whole]
  cases hs : assocR table unit with
  | false => rfl
  | true => exact absurd hs h
 have hat : ∀ i j : Int, (table.getD i.toNat []).getD j.toNat 0 = atR table i j := fun _ _ => rfl
 simp only [hat]
 have ru := T.2.1 unit u0 (by omega)
 refine loop_ix (n := table.length) (fun x => ∀ x' : Int, 0 <= x' -> x' < x -> (atR table x' unit = x' /\ atR table unit x' = x') /\ ∀ y : Int, 0 <= y -> y < table.length -> ∀ z : Int, 0 <= z -> z < table.length -> atR table (atR table x' y) z = atR table x' (atR table y z)) (by omega) (by intro y h0 h1; omega) ?_ ?_
 ·intro x next h0 h1 hP hn hin
  try dsimp only
  have rx := T.2.1 x h0 (by omega)
  refine cnd_d (fun _ => ⟨u0, u1, h0, by omega, fun _ => by omega, fun _ => by omega, cnd_of (fun hx => bad fun h => ?_) (fun hx => ?_)⟩) (fun h => absurd h1 h)
  ·have := (assoc_iff.1 h x h0 h1).1
   rw [this.1, this.2] at hx; simp at hx
  simp only [Bool.or_eq_false_iff, bne_eq_false_iff_eq] at hx
  refine loop_ix (n := table.length) (fun y => ∀ y' : Int, 0 <= y' -> y' < y -> ∀ z : Int, 0 <= z -> z < table.length -> atR table (atR table x y') z = atR table x (atR table y' z)) (by omega) (by intro y h0 h1; omega) ?_ ?_
  ·intro y next2 y0 y1 hP2 hn2 hin2
   try dsimp only
   have ry := T.2.1 y y0 (by omega)
   have axy := T.2.2 x y h0 (by omega) y0 (by omega)
   have rxy := T.2.1 _ axy.1 (by omega)
   refine cnd_d (fun _ => ?_) (fun h => absurd y1 h)
   refine loop_ix (n := table.length) (fun z => ∀ z' : Int, 0 <= z' -> z' < z -> atR table (atR table x y) z' = atR table x (atR table y z')) (by omega) (by intro y h0 h1; omega) ?_ ?_
   ·intro z next3 z0 z1 hP3 hn3 hin3
    try dsimp only
    have ayz := T.2.2 y z y0 (by omega) z0 (by omega)
    refine cnd_d (fun _ => ⟨h0, h1, y0, by omega, axy.1, by omega, z0, by omega, h0, h1, y0, y1, z0, by omega, ayz.1, by omega, cnd_of (fun hx2 => bad fun h => ?_) (fun hx2 => ⟨by rw [inK64]; (try dsimp only); omega, hn3 fun z' a0 a1 => ?_⟩)⟩) (fun h => absurd z1 h)
    ·rw [(assoc_iff.1 h x h0 h1).2 y y0 y1 z z0 z1] at hx2; simp at hx2
    ·by_cases e : z' = z
     ·rw [e]; simpa using hx2
     ·exact hP3 z' a0 (by omega)
   ·intro next3 hP3 hin3
    refine cnd_d (fun h => absurd h (by dsimp only; omega)) (fun _ => ⟨by rw [inK64]; (try dsimp only); omega, hn2 fun y' a0 a1 => ?_⟩)
    by_cases e : y' = y
    ·rw [e]; exact hP3
    ·exact hP2 y' a0 (by omega)
  ·intro next2 hP2 hin2
   refine cnd_d (fun h => absurd h (by dsimp only; omega)) (fun _ => ⟨by rw [inK64]; (try dsimp only); omega, hn fun x' a0 a1 => ?_⟩)
   by_cases e : x' = x
   ·rw [e]; exact ⟨⟨hx.2, hx.1⟩, hP2⟩
   ·exact hP x' a0 (by omega)
 ·intro next hP hin
  refine cnd_d (fun h => absurd h (by dsimp only; omega)) (fun _ => ?_)
  simp only [c_spec_l35Whole]
  rw [assoc_iff.2 hP]
theorem ct_spec_l35Whole : CtOk Try.prog 105 c_spec_l35Whole :=
 ct_by (Φ := lkp []) good_nil tab_ok (by kernel_rfl) (fn := Try.f105) (c := bodyOf Try.f105) (by kernel_rfl) (by kernel_rfl) (by kernel_rfl) c_spec_l35Whole rfl an_spec_l35Whole (cutL [(12, 27)]) (by kernel_rfl) (by kernel_rfl) k_spec_l35Whole (by decide) (fun x K => W_spec_l35Whole x.1 x.2.1 K) w_spec_l35Whole (fun x h1 h2 => m_spec_l35Whole x.1 x.2.1 h1 h2)
def montR (t : List (List Int)) : Bool := decide ((0 : Int) < t.length) && squareR t t.length && assocR t 0
def c_spec_l35Monoid : Ct := ⟨[(.sl (.sl (.int .i64)))], [false], fun x => [x.1.length <= 40], [(false, (.fz .bool))], fun x => (montR x.1, ()), false, none⟩
def ph_spec_l35Monoid : FuncId -> Option Ct := lkp [(129, c_spec_l03Square), (105, c_spec_l35Whole)]
def W_spec_l35Monoid (table : List (List Int)) (K : Bool × Unit -> Prop) : Prop := (((((decide (0 < ((table.length : Nat) : Int))) && (squareR table ((table.length : Nat) : Int))) = true) -> ((table.length <= 40) /\ (((0 : Int) <= 0) /\ ((0 < ((table.length : Nat) : Int)) /\ ((tabR table ((table.length : Nat) : Int)) = true))))) /\ (K ((((decide (0 < ((table.length : Nat) : Int))) && (squareR table ((table.length : Nat) : Int))) && (assocR table 0)), ())))
theorem w_spec_l35Monoid (x : denL c_spec_l35Monoid.args) (K : Bool × Unit -> Prop) : evF tab ph_spec_l35Monoid (cutL []) Try.f167 (bodyOf Try.f167) .n c_spec_l35Monoid x K = W_spec_l35Monoid x.1 K := by kernel_rfl
theorem k_spec_l35Monoid : okC Try.f167.ntmps (cutL []) (bodyOf Try.f167) = true := by kernel_rfl
theorem m_spec_l35Monoid (table : List (List Int)) (hok : allP (okL c_spec_l35Monoid.args (table, ()))) (hpre : allP (c_spec_l35Monoid.pre (table, ()))) : W_spec_l35Monoid table (fun r => r = c_spec_l35Monoid.res (table, ())) := by
 simp only [c_spec_l35Monoid, okL, T.oks, T.ok, ap, allP, true_and, and_true, implies_true] at hok hpre
 try dsimp only [T.den] at hok
 try dsimp only [T.den] at hpre
 unfold W_spec_l35Monoid
 refine ⟨fun h => ?_, rfl⟩
 simp only [Bool.and_eq_true, decide_eq_true_eq] at h
 exact ⟨hpre, Int.le_refl _, h.1, by simp only [tabR, Bool.and_eq_true, decide_eq_true_eq]; exact ⟨trivial, h.2⟩⟩
theorem ct_spec_l35Monoid : CtOk Try.prog 167 c_spec_l35Monoid :=
 ct_by (Φ := ph_spec_l35Monoid) (good_cons ct_spec_l03Square (good_cons ct_spec_l35Whole good_nil)) tab_ok (by kernel_rfl) (fn := Try.f167) (c := bodyOf Try.f167) (by kernel_rfl) (by kernel_rfl) (by kernel_rfl) c_spec_l35Monoid rfl .n (cutL []) (by kernel_rfl) (by kernel_rfl) k_spec_l35Monoid (by decide) (fun x K => W_spec_l35Monoid x.1 K) w_spec_l35Monoid (fun x h1 h2 => m_spec_l35Monoid x.1 h1 h2)
structure TblR (t : List (List Int)) : Prop where
 lo : 1 <= t.length
 hi : t.length <= 8
 rw_ : ∀ r ∈ t, r.length = t.length
theorem TblR.own {t : List (List Int)} (h : TblR t) : OwnP t := ⟨by have := h.hi; omega, fun r hr => by have := h.rw_ r hr; have := h.hi; omega⟩
theorem TblR.row {t : List (List Int)} (h : TblR t) {i : Int} (i0 : 0 <= i) (i1 : i < t.length) : (t.getD i.toNat []).length = t.length := h.rw_ _ (getD_mem t [] i0 i1)
def w1_spec_l02Monoid : Wt := ⟨(.pt (.fz spec_l01SourceT)), [], [], fun x y => [SrcR x], fun x _ => x, [(false, (.sl (.sl (.fz (.int .i64)))))], fun _ _ => dfR _⟩
def Q_spec_l02Monoid (s : spec_l01SourceD) (z : spec_l01SourceD) (r0 : List (List Int)) : Prop := SrcR z /\ TblR r0
def W_spec_l02Monoid (s : spec_l01SourceD) (K : spec_l01SourceD -> ((List (List Int)) × Unit) -> Prop) : Prop := ((0 <= s.2.1) /\ (cnd ((spec_l01Next_r0R s 8) == 0) (K (spec_l01Next_zR s 8) (((0 :: []) :: []), ())) (cnd ((spec_l01Next_r0R s 8) == 1) (K (spec_l01Next_zR s 8) (((0 :: (1 :: [])) :: ((1 :: (0 :: [])) :: [])), ())) (cnd ((spec_l01Next_r0R s 8) == 2) (K (spec_l01Next_zR s 8) (((0 :: (1 :: [])) :: ((1 :: (1 :: [])) :: [])), ())) (cnd ((spec_l01Next_r0R s 8) == 3) (K (spec_l01Next_zR s 8) (((0 :: (1 :: (2 :: []))) :: ((1 :: (2 :: (0 :: []))) :: ((2 :: (0 :: (1 :: []))) :: []))), ())) (cnd ((spec_l01Next_r0R s 8) == 4) (K (spec_l01Next_zR s 8) (((0 :: (1 :: (2 :: []))) :: ((1 :: (1 :: (2 :: []))) :: ((2 :: (2 :: (2 :: []))) :: []))), ())) (cnd ((spec_l01Next_r0R s 8) == 5) (K (spec_l01Next_zR s 8) (((0 :: (1 :: (2 :: []))) :: ((1 :: (1 :: (2 :: []))) :: ((2 :: (1 :: (2 :: []))) :: []))), ())) (cnd ((spec_l01Next_r0R s 8) == 6) (K (spec_l01Next_zR s 8) (((0 :: (1 :: (2 :: (3 :: [])))) :: ((1 :: (0 :: (2 :: (3 :: [])))) :: ((2 :: (3 :: (2 :: (3 :: [])))) :: ((3 :: (2 :: (2 :: (3 :: [])))) :: [])))), ())) (K (spec_l01Next_zR s 8) (((0 :: (1 :: (2 :: []))) :: ((1 :: (2 :: (2 :: []))) :: ((2 :: (2 :: (2 :: []))) :: []))), ()))))))))))
theorem w_spec_l02Monoid (x : w1_spec_l02Monoid.o.strip.den) (y : denL w1_spec_l02Monoid.as) (K : spec_l01SourceD -> ((List (List Int)) × Unit) -> Prop) : evFw tab (lkp [(79, c_spec_l01Next)]) (cutL []) Try.f146 (bodyOf Try.f146) .n w1_spec_l02Monoid x y K = W_spec_l02Monoid x  K := by kernel_rfl
theorem k_spec_l02Monoid : okC Try.f146.ntmps (cutL []) (bodyOf Try.f146) = true := by kernel_rfl
theorem m_spec_l02Monoid (s : spec_l01SourceD) (hok : allP (w1_spec_l02Monoid.o.strip.oks s)) (hok2 : allP (okL w1_spec_l02Monoid.as (()))) (hpre : allP (w1_spec_l02Monoid.pre s (()))) : W_spec_l02Monoid s (fun z r => Q_spec_l02Monoid s z r.1) := by
 simp only [w1_spec_l02Monoid, O.strip, okL, T.oks, T.ok, ap, allP, true_and, and_true, implies_true] at hok hok2 hpre
 try dsimp only [T.den] at hok
 try dsimp only [T.den] at hok2
 try dsimp only [T.den] at hpre
 unfold W_spec_l02Monoid Q_spec_l02Monoid
 have h1 := next_p (n := 8) hpre (by rw [inK64]; (try dsimp only); omega)
 refine ⟨hpre.2, ?_⟩
 repeat' first | exact ⟨h1.1, ⟨by simp, by simp, by simp⟩⟩ | refine cnd_of (fun _ => ⟨h1.1, ⟨by simp, by simp, by simp⟩⟩) (fun _ => ?_)
theorem e_spec_l02Monoid (s : spec_l01SourceD) : ∃ q : spec_l01SourceD × ((List (List Int)) × Unit), allP (w1_spec_l02Monoid.o.strip.oks s) -> allP (okL w1_spec_l02Monoid.as (())) -> allP (w1_spec_l02Monoid.pre s (())) -> W_spec_l02Monoid s (fun z r => z = q.1 /\ r = q.2) /\ allP (w1_spec_l02Monoid.o.strip.oks q.1) /\ allP (okR w1_spec_l02Monoid.rt q.2) /\ Q_spec_l02Monoid s q.1 q.2.1 :=
 pick_wy (f := 146) (Φ := lkp [(79, c_spec_l01Next)]) (good_cons ct_spec_l01Next good_nil) tab_ok (by kernel_rfl) (fn := Try.f146) (c := bodyOf Try.f146) (by kernel_rfl) (by kernel_rfl) (by kernel_rfl) w1_spec_l02Monoid .n (cutL []) (by kernel_rfl) (by kernel_rfl) k_spec_l02Monoid (by decide) (by kernel_rfl) (by kernel_rfl) spec_l01SourceT rfl (by kernel_rfl) (fun x y K => W_spec_l02Monoid x  K) w_spec_l02Monoid (fun x y z r => Q_spec_l02Monoid x  z r.1) (fun x y h1 h2 h3 => m_spec_l02Monoid x  h1 h2 h3) s (())
def spec_l02Monoid_zR (s : spec_l01SourceD) : spec_l01SourceD := (e_spec_l02Monoid s).choose.1
def spec_l02Monoid_r0R (s : spec_l01SourceD) : List (List Int) := (e_spec_l02Monoid s).choose.2.1
theorem q_spec_l02Monoid (s : spec_l01SourceD) (hok : allP (w1_spec_l02Monoid.o.strip.oks s)) (hok2 : allP (okL w1_spec_l02Monoid.as (()))) (hpre : allP (w1_spec_l02Monoid.pre s (()))) : allP (w1_spec_l02Monoid.o.strip.oks (spec_l02Monoid_zR s)) /\ allP (okR w1_spec_l02Monoid.rt (spec_l02Monoid_r0R s, ())) /\ Q_spec_l02Monoid s (spec_l02Monoid_zR s) (spec_l02Monoid_r0R s) := ((e_spec_l02Monoid s).choose_spec hok hok2 hpre).2
def w0_spec_l02Monoid : Wt := ⟨(.pt (.fz spec_l01SourceT)), [], [], fun x y => [SrcR x], fun x y => (spec_l02Monoid_zR x), [(false, (.sl (.sl (.fz (.int .i64)))))], fun x y => ((spec_l02Monoid_r0R x), ())⟩
def c_spec_l02Monoid : Ct := wtCt w0_spec_l02Monoid
theorem w2_spec_l02Monoid (x : w0_spec_l02Monoid.o.strip.den) (y : denL w0_spec_l02Monoid.as) (K : spec_l01SourceD -> ((List (List Int)) × Unit) -> Prop) : evFw tab (lkp [(79, c_spec_l01Next)]) (cutL []) Try.f146 (bodyOf Try.f146) .n w0_spec_l02Monoid x y K = W_spec_l02Monoid x  K := by kernel_rfl
theorem ct_spec_l02Monoid : CtOk Try.prog 146 c_spec_l02Monoid :=
 wt_of (Φ := lkp [(79, c_spec_l01Next)]) (good_cons ct_spec_l01Next good_nil) tab_ok (by kernel_rfl) (fn := Try.f146) (c := bodyOf Try.f146) (by kernel_rfl) (by kernel_rfl) (by kernel_rfl) w0_spec_l02Monoid .n (cutL []) (by kernel_rfl) (by kernel_rfl) k_spec_l02Monoid (by decide) (by kernel_rfl) (fun x y h1 h2 h3 => (w2_spec_l02Monoid x y _).mpr ((e_spec_l02Monoid x ).choose_spec h1 h2 h3).1)
theorem monoid_p {s : spec_l01SourceD} (h : SrcR s) : SrcR (spec_l02Monoid_zR s) /\ TblR (spec_l02Monoid_r0R s) /\ (T.sl (.sl (.int .i64))).ok (spec_l02Monoid_r0R s) := by
 obtain ⟨_, h2, h3⟩ := q_spec_l02Monoid s h.1 trivial ⟨h, trivial⟩
 exact ⟨h3.1, h3.2, h2.1⟩
structure PosR (rel : List (List Int)) (c : CategoryD) : Prop where
 le : c.2.1.length <= rel.length * rel.length
 ft : c.2.2.1.length = c.2.1.length
 inn : ∀ f : Int, 0 <= f -> f < c.2.1.length -> (0 <= c.2.1.getD f.toNat 0 /\ c.2.1.getD f.toNat 0 < rel.length) /\ (0 <= c.2.2.1.getD f.toNat 0 /\ c.2.2.1.getD f.toNat 0 < rel.length) /\ (rel.getD (c.2.1.getD f.toNat 0).toNat []).getD (c.2.2.1.getD f.toNat 0).toNat 0 = 1
 has : ∀ i j : Int, 0 <= i -> i < rel.length -> 0 <= j -> j < rel.length -> (rel.getD i.toNat []).getD j.toNat 0 = 1 -> ∃ f : Int, 0 <= f /\ f < c.2.1.length /\ c.2.1.getD f.toNat 0 = i /\ c.2.2.1.getD f.toNat 0 = j
 ob : c.1 = rel.length
 il : c.2.2.2.1.length = rel.length
 cl : c.2.2.2.2.length = c.2.1.length
 rl : ∀ r ∈ c.2.2.2.2, r.length = c.2.1.length
structure PairP (rel : List (List Int)) (i j : Int) (A B : List Int) : Prop where
 le : (A.length : Int) <= i * rel.length + j
 ft : B.length = A.length
 inn : ∀ f : Int, 0 <= f -> f < A.length -> (0 <= A.getD f.toNat 0 /\ A.getD f.toNat 0 < rel.length) /\ (0 <= B.getD f.toNat 0 /\ B.getD f.toNat 0 < rel.length) /\ (rel.getD (A.getD f.toNat 0).toNat []).getD (B.getD f.toNat 0).toNat 0 = 1
 has : ∀ x y : Int, 0 <= x -> x < rel.length -> 0 <= y -> y < rel.length -> (x < i ∨ x = i /\ y < j) -> (rel.getD x.toNat []).getD y.toNat 0 = 1 -> ∃ f : Int, 0 <= f /\ f < A.length /\ A.getD f.toNat 0 = x /\ B.getD f.toNat 0 = y
theorem get_l {A : List Int} {x : Int} {f : Int} (h0 : 0 <= f) (h1 : f < A.length) : (A ++ [x]).getD f.toNat 0 = A.getD f.toNat 0 := by
 simp only [List.getD_eq_getElem?_getD]; rw [List.getElem?_append_left (by omega)]
theorem get_n {A : List Int} {x : Int} : (A ++ [x]).getD (A.length : Int).toNat 0 = x := by
 simp [List.getD_eq_getElem?_getD]
theorem PairP.skip {rel : List (List Int)} {i j : Int} {A B : List Int} (P : PairP rel i j A B) (h : ¬ (rel.getD i.toNat []).getD j.toNat 0 = 1) : PairP rel i (j + 1) A B :=
 ⟨by have := P.le; omega, P.ft, P.inn, fun x y x0 x1 y0 y1 hxy hr => by
  by_cases e : x = i /\ y = j
  ·rw [e.1, e.2] at hr; exact absurd hr h
  ·exact P.has x y x0 x1 y0 y1 (by omega) hr⟩
theorem PairP.add {rel : List (List Int)} {i j : Int} {A B : List Int} (P : PairP rel i j A B) (i0 : 0 <= i) (i1 : i < rel.length) (j0 : 0 <= j) (j1 : j < rel.length) (h : (rel.getD i.toNat []).getD j.toNat 0 = 1) : PairP rel i (j + 1) (A ++ [i]) (B ++ [j]) := by
 have hf := P.ft
 have e1 : (A ++ [i]).length = A.length + 1 := by simp
 have gB : ∀ f : Int, 0 <= f -> f < A.length -> (B ++ [j]).getD f.toNat 0 = B.getD f.toNat 0 := fun f f0 f1 => get_l f0 (by omega)
 have nB : (B ++ [j]).getD (A.length : Int).toNat 0 = j := by rw [← hf]; exact get_n
 refine ⟨by rw [e1]; have := P.le; omega, by simp [hf], fun f f0 f1 => ?_, fun x y x0 x1 y0 y1 hxy hr => ?_⟩
 ·rw [e1] at f1
  by_cases e : f = A.length
  ·rw [e, get_n, nB]
   exact ⟨⟨i0, i1⟩, ⟨j0, j1⟩, h⟩
  ·rw [get_l f0 (by omega), gB f f0 (by omega)]
   exact P.inn f f0 (by omega)
 ·by_cases e : x = i /\ y = j
  ·exact ⟨A.length, by omega, by rw [e1]; omega, by rw [get_n, e.1], by rw [nB, e.2]⟩
  ·obtain ⟨f, f0, f1, f2, f3⟩ := P.has x y x0 x1 y0 y1 (by omega) hr
   exact ⟨f, f0, by rw [e1]; omega, by rw [get_l f0 f1]; exact f2, by rw [gB f f0 f1]; exact f3⟩
theorem PairP.next {rel : List (List Int)} {i : Int} {A B : List Int} (P : PairP rel i rel.length A B) : PairP rel (i + 1) 0 A B :=
 ⟨by have := P.le; rw [Int.add_mul]; omega, P.ft, P.inn, fun x y x0 x1 y0 y1 hxy hr => P.has x y x0 x1 y0 y1 (by omega) hr⟩
def c1_spec_l03Poset : Ct := ⟨[(.sl (.sl (.int .i64)))], [false], fun x => [TblR x.1], [(true, CategoryO)], fun _ => dfR _, false, none⟩
def Q_spec_l03Poset (rel : List (List Int)) (r0 : CategoryD) : Prop := PosR rel r0
def an_spec_l03Poset : Ann := (.s .n (.s .n (.s .n (.s .n (.s (.s .n (.l [(2, (.ad 2 [.de])), (4, (.ref 800004 [])), (5, (.ad 5 [.de])), (6, (.d (.int .i64)))] [(2, (.pt (.p (.fz (.int .i64)) (.p (.sl (.fz (.int .i64))) (.p (.sl (.fz (.int .i64))) (.p (.sl (.fz (.int .i64))) (.sl (.sl (.fz (.int .i64)))))))))), (800004, (.sl (.sl (.fz (.int .i64))))), (5, (.pt (.p (.fz (.int .i64)) (.p (.sl (.fz (.int .i64))) (.p (.sl (.fz (.int .i64))) (.p (.sl (.fz (.int .i64))) (.sl (.sl (.fz (.int .i64))))))))))] [0, 3] (.s .n (.s (.s .n (.s (.s .n (.l [(2, (.ad 2 [.de])), (4, (.ref 800004 [])), (5, (.ad 5 [.de])), (7, (.ref 800007 [])), (8, (.d (.int .i64)))] [(2, (.pt (.p (.fz (.int .i64)) (.p (.sl (.fz (.int .i64))) (.p (.sl (.fz (.int .i64))) (.p (.sl (.fz (.int .i64))) (.sl (.sl (.fz (.int .i64)))))))))), (800004, (.sl (.sl (.fz (.int .i64))))), (5, (.pt (.p (.fz (.int .i64)) (.p (.sl (.fz (.int .i64))) (.p (.sl (.fz (.int .i64))) (.p (.sl (.fz (.int .i64))) (.sl (.sl (.fz (.int .i64)))))))))), (800007, (.sl (.fz (.int .i64))))] [0, 3, 6] (.s .n (.s (.s .n (.s .n (.j [(2, (.ad 2 [.de])), (4, (.ref 800004 [])), (5, (.ad 5 [.de])), (7, (.ref 800007 []))] [(2, (.pt (.p (.fz (.int .i64)) (.p (.sl (.fz (.int .i64))) (.p (.sl (.fz (.int .i64))) (.p (.sl (.fz (.int .i64))) (.sl (.sl (.fz (.int .i64)))))))))), (800004, (.sl (.sl (.fz (.int .i64))))), (5, (.pt (.p (.fz (.int .i64)) (.p (.sl (.fz (.int .i64))) (.p (.sl (.fz (.int .i64))) (.p (.sl (.fz (.int .i64))) (.sl (.sl (.fz (.int .i64)))))))))), (800007, (.sl (.fz (.int .i64))))] [0, 3, 6, 8] .n))) .n)))) .n)) .n)))) (.s (.s .n (.l [(2, (.ad 2 [.de])), (5, (.ad 5 [.de])), (9, (.d (.int .i64)))] [(2, (.pt (.p (.fz (.int .i64)) (.p (.sl (.fz (.int .i64))) (.p (.sl (.fz (.int .i64))) (.p (.sl (.fz (.int .i64))) (.sl (.sl (.fz (.int .i64)))))))))), (5, (.pt (.p (.fz (.int .i64)) (.p (.sl (.fz (.int .i64))) (.p (.sl (.fz (.int .i64))) (.p (.sl (.fz (.int .i64))) (.sl (.sl (.fz (.int .i64))))))))))] [3, 4] .n)) (.s (.s .n (.l [(2, (.ad 2 [.de])), (5, (.ad 5 [.de])), (10, (.d (.int .i64)))] [(2, (.pt (.p (.fz (.int .i64)) (.p (.sl (.fz (.int .i64))) (.p (.sl (.fz (.int .i64))) (.p (.sl (.fz (.int .i64))) (.sl (.sl (.fz (.int .i64)))))))))), (5, (.pt (.p (.fz (.int .i64)) (.p (.sl (.fz (.int .i64))) (.p (.sl (.fz (.int .i64))) (.p (.sl (.fz (.int .i64))) (.sl (.sl (.fz (.int .i64))))))))))] [4] (.s .n (.s (.s .n (.s (.s .n (.l [(2, (.ad 2 [.de])), (5, (.ad 5 [.de])), (11, (.ref 800011 [])), (12, (.d (.int .i64)))] [(2, (.pt (.p (.fz (.int .i64)) (.p (.sl (.fz (.int .i64))) (.p (.sl (.fz (.int .i64))) (.p (.sl (.fz (.int .i64))) (.sl (.sl (.fz (.int .i64)))))))))), (5, (.pt (.p (.fz (.int .i64)) (.p (.sl (.fz (.int .i64))) (.p (.sl (.fz (.int .i64))) (.p (.sl (.fz (.int .i64))) (.sl (.sl (.fz (.int .i64)))))))))), (800011, (.sl (.fz (.int .i64))))] [4, 10] (.s .n (.s (.s .n (.s (.s .n (.j [(2, (.ad 2 [.de])), (5, (.ad 5 [.de])), (11, (.ref 800011 [])), (13, (.d (.int .i64)))] [(2, (.pt (.p (.fz (.int .i64)) (.p (.sl (.fz (.int .i64))) (.p (.sl (.fz (.int .i64))) (.p (.sl (.fz (.int .i64))) (.sl (.sl (.fz (.int .i64)))))))))), (5, (.pt (.p (.fz (.int .i64)) (.p (.sl (.fz (.int .i64))) (.p (.sl (.fz (.int .i64))) (.p (.sl (.fz (.int .i64))) (.sl (.sl (.fz (.int .i64)))))))))), (800011, (.sl (.fz (.int .i64))))] [4, 10, 12] .n)) .n)) .n)))) .n)) .n)))) .n)))))))
def W_spec_l03Poset (rel : List (List Int)) (K : CategoryD × Unit -> Prop) : Prop := (loopW (S := ((Unit × (Unit × (Unit × (Int × Unit)))) × ((Int × ((List Int) × ((List Int) × ((List Int) × (List (List Int)))))) × ((List (List Int)) × ((Int × ((List Int) × ((List Int) × ((List Int) × (List (List Int)))))) × Unit))))) (fun s => (fun next => ((inK .i64 s.1.2.2.2.1) -> ((inK .i64 s.2.1.1) -> ((T.ok (.sl (.int .i64)) s.2.1.2.1) -> ((T.ok (.sl (.int .i64)) s.2.1.2.2.1) -> ((T.ok (.sl (.int .i64)) s.2.1.2.2.2.1) -> ((T.ok (.sl (.sl (.int .i64))) s.2.1.2.2.2.2) -> ((T.ok (.sl (.sl (.int .i64))) s.2.2.1) -> ((inK .i64 s.2.2.2.1.1) -> ((T.ok (.sl (.int .i64)) s.2.2.2.1.2.1) -> ((T.ok (.sl (.int .i64)) s.2.2.2.1.2.2.1) -> ((T.ok (.sl (.int .i64)) s.2.2.2.1.2.2.2.1) -> ((T.ok (.sl (.sl (.int .i64))) s.2.2.2.1.2.2.2.2) -> (cnd (decide (s.1.2.2.2.1 < ((rel.length : Nat) : Int))) (loopW (S := ((Unit × (Unit × (Unit × (Unit × (Int × Unit))))) × ((Int × ((List Int) × ((List Int) × ((List Int) × (List (List Int)))))) × ((List (List Int)) × ((Int × ((List Int) × ((List Int) × ((List Int) × (List (List Int)))))) × ((List Int) × Unit)))))) (fun s1 => (fun next1 => ((inK .i64 s1.1.2.2.2.2.1) -> ((inK .i64 s1.2.1.1) -> ((T.ok (.sl (.int .i64)) s1.2.1.2.1) -> ((T.ok (.sl (.int .i64)) s1.2.1.2.2.1) -> ((T.ok (.sl (.int .i64)) s1.2.1.2.2.2.1) -> ((T.ok (.sl (.sl (.int .i64))) s1.2.1.2.2.2.2) -> ((T.ok (.sl (.sl (.int .i64))) s1.2.2.1) -> ((inK .i64 s1.2.2.2.1.1) -> ((T.ok (.sl (.int .i64)) s1.2.2.2.1.2.1) -> ((T.ok (.sl (.int .i64)) s1.2.2.2.1.2.2.1) -> ((T.ok (.sl (.int .i64)) s1.2.2.2.1.2.2.2.1) -> ((T.ok (.sl (.sl (.int .i64))) s1.2.2.2.1.2.2.2.2) -> ((T.ok (.sl (.int .i64)) s1.2.2.2.2.1) -> (cnd (decide (s1.1.2.2.2.2.1 < ((rel.length : Nat) : Int))) ((room s1.2.2.2.2.1.length (List.length (((s1.2.2.2.1.2.1.length : Nat) : Int) :: [])) 8) /\ ((0 <= s.1.2.2.2.1) /\ ((s.1.2.2.2.1 < ((rel.length : Nat) : Int)) /\ ((0 <= s1.1.2.2.2.2.1) /\ ((s1.1.2.2.2.2.1 < (((List.length (List.getD rel s.1.2.2.2.1.toNat [])) : Nat) : Int)) /\ (joinW (S := ((Unit × (Unit × (Unit × (Unit × Unit)))) × ((Int × ((List Int) × ((List Int) × ((List Int) × (List (List Int)))))) × ((List (List Int)) × ((Int × ((List Int) × ((List Int) × ((List Int) × (List (List Int)))))) × ((List Int) × Unit)))))) (fun s2 => ((inK .i64 s2.2.1.1) -> ((T.ok (.sl (.int .i64)) s2.2.1.2.1) -> ((T.ok (.sl (.int .i64)) s2.2.1.2.2.1) -> ((T.ok (.sl (.int .i64)) s2.2.1.2.2.2.1) -> ((T.ok (.sl (.sl (.int .i64))) s2.2.1.2.2.2.2) -> ((T.ok (.sl (.sl (.int .i64))) s2.2.2.1) -> ((inK .i64 s2.2.2.2.1.1) -> ((T.ok (.sl (.int .i64)) s2.2.2.2.1.2.1) -> ((T.ok (.sl (.int .i64)) s2.2.2.2.1.2.2.1) -> ((T.ok (.sl (.int .i64)) s2.2.2.2.1.2.2.2.1) -> ((T.ok (.sl (.sl (.int .i64))) s2.2.2.2.1.2.2.2.2) -> ((T.ok (.sl (.int .i64)) s2.2.2.2.2.1) -> ((inK .i64 (s1.1.2.2.2.2.1 + 1)) /\ (next1 (((), ((), ((), ((), ((s1.1.2.2.2.2.1 + 1), ()))))), (s2.2.1, (s2.2.2.1, (s2.2.2.2.1, (s2.2.2.2.2.1, ())))))))))))))))))))) (fun k => (cnd ((List.getD (List.getD rel s.1.2.2.2.1.toNat []) s1.1.2.2.2.2.1.toNat 0) == 1) ((room s1.2.2.2.1.2.1.length (List.length (s.1.2.2.2.1 :: [])) 8) /\ ((room s1.2.2.2.1.2.2.1.length (List.length (s1.1.2.2.2.2.1 :: [])) 8) /\ (k (((), ((), ((), ((), ())))), (s1.2.1, (s1.2.2.1, ((s1.2.2.2.1.1, ((s1.2.2.2.1.2.1 ++ (s.1.2.2.2.1 :: [])), ((s1.2.2.2.1.2.2.1 ++ (s1.1.2.2.2.2.1 :: [])), s1.2.2.2.1.2.2.2))), ((s1.2.2.2.2.1 ++ (((s1.2.2.2.1.2.1.length : Nat) : Int) :: [])), ())))))))) (k (((), ((), ((), ((), ())))), (s1.2.1, (s1.2.2.1, (s1.2.2.2.1, ((s1.2.2.2.2.1 ++ (((s1.2.2.2.1.2.1.length : Nat) : Int) :: [])), ())))))))))))))) ((room s1.2.2.1.length (List.length (s1.2.2.2.2.1 :: [])) 24) /\ ((inK .i64 (s.1.2.2.2.1 + 1)) /\ (next (((), ((), ((), ((s.1.2.2.2.1 + 1), ())))), (s1.2.1, ((s1.2.2.1 ++ (s1.2.2.2.2.1 :: [])), (s1.2.2.2.1, ()))))))))))))))))))))))) (((), ((), ((), ((), (0, ()))))), (s.2.1, (s.2.2.1, (s.2.2.2.1, ([], ())))))) (loopW (S := ((Unit × (Unit × (Int × Unit))) × ((Int × ((List Int) × ((List Int) × ((List Int) × (List (List Int)))))) × ((Int × ((List Int) × ((List Int) × ((List Int) × (List (List Int)))))) × Unit)))) (fun s1 => (fun next1 => ((inK .i64 s1.1.2.2.1) -> ((inK .i64 s1.2.1.1) -> ((T.ok (.sl (.int .i64)) s1.2.1.2.1) -> ((T.ok (.sl (.int .i64)) s1.2.1.2.2.1) -> ((T.ok (.sl (.int .i64)) s1.2.1.2.2.2.1) -> ((T.ok (.sl (.sl (.int .i64))) s1.2.1.2.2.2.2) -> ((inK .i64 s1.2.2.1.1) -> ((T.ok (.sl (.int .i64)) s1.2.2.1.2.1) -> ((T.ok (.sl (.int .i64)) s1.2.2.1.2.2.1) -> ((T.ok (.sl (.int .i64)) s1.2.2.1.2.2.2.1) -> ((T.ok (.sl (.sl (.int .i64))) s1.2.2.1.2.2.2.2) -> (cnd (decide (s1.1.2.2.1 < ((rel.length : Nat) : Int))) ((0 <= s1.1.2.2.1) /\ ((s1.1.2.2.1 < ((s.2.2.1.length : Nat) : Int)) /\ ((0 <= s1.1.2.2.1) /\ ((s1.1.2.2.1 < (((List.length (List.getD s.2.2.1 s1.1.2.2.1.toNat [])) : Nat) : Int)) /\ ((room s1.2.2.1.2.2.2.1.length (List.length ((List.getD (List.getD s.2.2.1 s1.1.2.2.1.toNat []) s1.1.2.2.1.toNat 0) :: [])) 8) /\ ((inK .i64 (s1.1.2.2.1 + 1)) /\ (next1 (((), ((), ((s1.1.2.2.1 + 1), ()))), (s1.2.1, ((s1.2.2.1.1, (s1.2.2.1.2.1, (s1.2.2.1.2.2.1, ((s1.2.2.1.2.2.2.1 ++ ((List.getD (List.getD s.2.2.1 s1.1.2.2.1.toNat []) s1.1.2.2.1.toNat 0) :: [])), s1.2.2.1.2.2.2.2)))), ())))))))))) (loopW (S := ((Unit × (Unit × (Int × Unit))) × ((Int × ((List Int) × ((List Int) × ((List Int) × (List (List Int)))))) × ((Int × ((List Int) × ((List Int) × ((List Int) × (List (List Int)))))) × Unit)))) (fun s2 => (fun next2 => ((inK .i64 s2.1.2.2.1) -> ((inK .i64 s2.2.1.1) -> ((T.ok (.sl (.int .i64)) s2.2.1.2.1) -> ((T.ok (.sl (.int .i64)) s2.2.1.2.2.1) -> ((T.ok (.sl (.int .i64)) s2.2.1.2.2.2.1) -> ((T.ok (.sl (.sl (.int .i64))) s2.2.1.2.2.2.2) -> ((inK .i64 s2.2.2.1.1) -> ((T.ok (.sl (.int .i64)) s2.2.2.1.2.1) -> ((T.ok (.sl (.int .i64)) s2.2.2.1.2.2.1) -> ((T.ok (.sl (.int .i64)) s2.2.2.1.2.2.2.1) -> ((T.ok (.sl (.sl (.int .i64))) s2.2.2.1.2.2.2.2) -> (cnd (decide (s2.1.2.2.1 < ((s2.2.2.1.2.1.length : Nat) : Int))) (loopW (S := ((Unit × (Unit × (Unit × (Int × Unit)))) × ((Int × ((List Int) × ((List Int) × ((List Int) × (List (List Int)))))) × ((Int × ((List Int) × ((List Int) × ((List Int) × (List (List Int)))))) × ((List Int) × Unit))))) (fun s3 => (fun next3 => ((inK .i64 s3.1.2.2.2.1) -> ((inK .i64 s3.2.1.1) -> ((T.ok (.sl (.int .i64)) s3.2.1.2.1) -> ((T.ok (.sl (.int .i64)) s3.2.1.2.2.1) -> ((T.ok (.sl (.int .i64)) s3.2.1.2.2.2.1) -> ((T.ok (.sl (.sl (.int .i64))) s3.2.1.2.2.2.2) -> ((inK .i64 s3.2.2.1.1) -> ((T.ok (.sl (.int .i64)) s3.2.2.1.2.1) -> ((T.ok (.sl (.int .i64)) s3.2.2.1.2.2.1) -> ((T.ok (.sl (.int .i64)) s3.2.2.1.2.2.2.1) -> ((T.ok (.sl (.sl (.int .i64))) s3.2.2.1.2.2.2.2) -> ((T.ok (.sl (.int .i64)) s3.2.2.2.1) -> (cnd (decide (s3.1.2.2.2.1 < ((s3.2.2.1.2.1.length : Nat) : Int))) ((0 <= s2.1.2.2.1) /\ ((s2.1.2.2.1 < ((s3.2.2.1.2.2.1.length : Nat) : Int)) /\ ((0 <= s3.1.2.2.2.1) /\ ((s3.1.2.2.2.1 < ((s3.2.2.1.2.1.length : Nat) : Int)) /\ (joinW (S := ((Unit × (Unit × (Unit × (Int × Unit)))) × ((Int × ((List Int) × ((List Int) × ((List Int) × (List (List Int)))))) × ((Int × ((List Int) × ((List Int) × ((List Int) × (List (List Int)))))) × ((List Int) × Unit))))) (fun s4 => ((inK .i64 s4.1.2.2.2.1) -> ((inK .i64 s4.2.1.1) -> ((T.ok (.sl (.int .i64)) s4.2.1.2.1) -> ((T.ok (.sl (.int .i64)) s4.2.1.2.2.1) -> ((T.ok (.sl (.int .i64)) s4.2.1.2.2.2.1) -> ((T.ok (.sl (.sl (.int .i64))) s4.2.1.2.2.2.2) -> ((inK .i64 s4.2.2.1.1) -> ((T.ok (.sl (.int .i64)) s4.2.2.1.2.1) -> ((T.ok (.sl (.int .i64)) s4.2.2.1.2.2.1) -> ((T.ok (.sl (.int .i64)) s4.2.2.1.2.2.2.1) -> ((T.ok (.sl (.sl (.int .i64))) s4.2.2.1.2.2.2.2) -> ((T.ok (.sl (.int .i64)) s4.2.2.2.1) -> ((room s4.2.2.2.1.length (List.length (s4.1.2.2.2.1 :: [])) 8) /\ ((inK .i64 (s3.1.2.2.2.1 + 1)) /\ (next3 (((), ((), ((), ((s3.1.2.2.2.1 + 1), ())))), (s4.2.1, (s4.2.2.1, ((s4.2.2.2.1 ++ (s4.1.2.2.2.1 :: [])), ())))))))))))))))))))) (fun k => (cnd ((List.getD s3.2.2.1.2.2.1 s2.1.2.2.1.toNat 0) == (List.getD s3.2.2.1.2.1 s3.1.2.2.2.1.toNat 0)) ((0 <= s2.1.2.2.1) /\ ((s2.1.2.2.1 < ((s3.2.2.1.2.1.length : Nat) : Int)) /\ ((0 <= (List.getD s3.2.2.1.2.1 s2.1.2.2.1.toNat 0)) /\ (((List.getD s3.2.2.1.2.1 s2.1.2.2.1.toNat 0) < ((s.2.2.1.length : Nat) : Int)) /\ ((0 <= s3.1.2.2.2.1) /\ ((s3.1.2.2.2.1 < ((s3.2.2.1.2.2.1.length : Nat) : Int)) /\ ((0 <= (List.getD s3.2.2.1.2.2.1 s3.1.2.2.2.1.toNat 0)) /\ (((List.getD s3.2.2.1.2.2.1 s3.1.2.2.2.1.toNat 0) < (((List.length (List.getD s.2.2.1 (Int.toNat (List.getD s3.2.2.1.2.1 s2.1.2.2.1.toNat 0)) [])) : Nat) : Int)) /\ (k (((), ((), ((), ((List.getD (List.getD s.2.2.1 (Int.toNat (List.getD s3.2.2.1.2.1 s2.1.2.2.1.toNat 0)) []) (Int.toNat (List.getD s3.2.2.1.2.2.1 s3.1.2.2.2.1.toNat 0)) 0), ())))), (s3.2.1, (s3.2.2.1, (s3.2.2.2.1, ()))))))))))))) (k (((), ((), ((), ((-1), ())))), (s3.2.1, (s3.2.2.1, (s3.2.2.2.1, ())))))))))))) ((room s3.2.2.1.2.2.2.2.length (List.length (s3.2.2.2.1 :: [])) 24) /\ ((inK .i64 (s2.1.2.2.1 + 1)) /\ (next2 (((), ((), ((s2.1.2.2.1 + 1), ()))), (s3.2.1, ((s3.2.2.1.1, (s3.2.2.1.2.1, (s3.2.2.1.2.2.1, (s3.2.2.1.2.2.2.1, (s3.2.2.1.2.2.2.2 ++ (s3.2.2.2.1 :: [])))))), ()))))))))))))))))))))) (((), ((), ((), (0, ())))), (s2.2.1, (s2.2.2.1, ([], ()))))) (K (s2.2.2.1, ())))))))))))))))) (((), ((), (0, ()))), (s1.2.1, (s1.2.2.1, ())))))))))))))))))) (((), ((), (0, ()))), (s.2.1, (s.2.2.2.1, ()))))))))))))))))))) (((), ((), ((), (0, ())))), ((0, ([], ([], ([], [])))), ([], ((((rel.length : Nat) : Int), ([], ([], ([], [])))), ())))))
theorem w_spec_l03Poset (x : denL c1_spec_l03Poset.args) (K : CategoryD × Unit -> Prop) : evF tab (lkp []) (cutL [(19, 510), (28, 10), (29, 13)]) Try.f140 (bodyOf Try.f140) an_spec_l03Poset c1_spec_l03Poset x K = W_spec_l03Poset x.1 K := by kernel_rfl
theorem k_spec_l03Poset : okC Try.f140.ntmps (cutL [(19, 510), (28, 10), (29, 13)]) (bodyOf Try.f140) = true := by kernel_rfl
theorem m_spec_l03Poset (rel : List (List Int)) (hok : allP (okL c1_spec_l03Poset.args (rel, ()))) (hpre : allP (c1_spec_l03Poset.pre (rel, ()))) : W_spec_l03Poset rel (fun r => Q_spec_l03Poset rel r.1) := by
 simp only [c1_spec_l03Poset, okL, T.oks, T.ok, ap, allP, true_and, and_true, implies_true] at hok hpre
 try dsimp only [T.den] at hok
 try dsimp only [T.den] at hpre
 unfold W_spec_l03Poset Q_spec_l03Poset
 have hl := hpre.hi
 have hrow := fun i (h0 : 0 <= i) (h1 : i < (rel.length : Int)) => hpre.row h0 h1
 refine loop_of (fun (s : ((Unit × (Unit × (Unit × (Int × Unit)))) × ((Int × ((List Int) × ((List Int) × ((List Int) × (List (List Int)))))) × ((List (List Int)) × ((Int × ((List Int) × ((List Int) × ((List Int) × (List (List Int)))))) × Unit))))) => 0 <= s.1.2.2.2.1 /\ s.1.2.2.2.1 <= rel.length /\ (s.2.2.1.length : Int) = s.1.2.2.2.1 /\ (∀ r ∈ s.2.2.1, r.length = rel.length) /\ PairP rel s.1.2.2.2.1 0 s.2.2.2.1.2.1 s.2.2.2.1.2.2.1 /\ s.2.2.2.1.1 = rel.length /\ s.2.2.2.1.2.2.2.1 = [] /\ s.2.2.2.1.2.2.2.2 = []) (fun (s : ((Unit × (Unit × (Unit × (Int × Unit)))) × ((Int × ((List Int) × ((List Int) × ((List Int) × (List (List Int)))))) × ((List (List Int)) × ((Int × ((List Int) × ((List Int) × ((List Int) × (List (List Int)))))) × Unit))))) => (rel.length - s.1.2.2.2.1).toNat) ?_ ⟨by simp, by simp, by simp, by simp, ⟨by simp, rfl, fun f h0 h1 => by simp at h1; omega, fun x y x0 _ _ _ h => by dsimp only at h; omega⟩, rfl, rfl, rfl⟩
 rintro ⟨⟨u1, u2, u3, i, u4⟩, d, num, ⟨ob, A, B, I, C⟩, u5⟩ next ⟨h0, h1, h2, h3, hP, h4, h5, h6⟩ hn
 intros
 try dsimp only at h0 h1 h2 h3 hP h4 h5 h6 hn ⊢
 subst h4; subst h5; subst h6
 have hll : (rel.length : Int) * rel.length <= 64 := by
  have : rel.length * rel.length <= 8 * 8 := Nat.mul_le_mul hl hl
  omega
 refine cnd_d (fun hc => ?_) (fun hc => ?_)
 ·refine loop_of (fun (s : ((Unit × (Unit × (Unit × (Unit × (Int × Unit))))) × ((Int × ((List Int) × ((List Int) × ((List Int) × (List (List Int)))))) × ((List (List Int)) × ((Int × ((List Int) × ((List Int) × ((List Int) × (List (List Int)))))) × ((List Int) × Unit)))))) => 0 <= s.1.2.2.2.2.1 /\ s.1.2.2.2.2.1 <= rel.length /\ s.2.2.1 = num /\ (s.2.2.2.2.1.length : Int) = s.1.2.2.2.2.1 /\ PairP rel i s.1.2.2.2.2.1 s.2.2.2.1.2.1 s.2.2.2.1.2.2.1 /\ s.2.2.2.1.1 = rel.length /\ s.2.2.2.1.2.2.2.1 = [] /\ s.2.2.2.1.2.2.2.2 = []) (fun (s : ((Unit × (Unit × (Unit × (Unit × (Int × Unit))))) × ((Int × ((List Int) × ((List Int) × ((List Int) × (List (List Int)))))) × ((List (List Int)) × ((Int × ((List Int) × ((List Int) × ((List Int) × (List (List Int)))))) × ((List Int) × Unit)))))) => (rel.length - s.1.2.2.2.2.1).toNat) ?_ ⟨by simp, by simp, rfl, by simp, hP, rfl, rfl, rfl⟩
  rintro ⟨⟨v1, v2, v3, v4, j, v5⟩, d1, num1, ⟨ob1, A1, B1, I1, C1⟩, row, v6⟩ next1 ⟨g0, g1, g2, g3, gP, g4, g5, g6⟩ hn1
  intros
  try dsimp only at g0 g1 g2 g3 gP g4 g5 g6 hn1 ⊢
  subst g2; subst g4; subst g5; subst g6
  refine cnd_d (fun hd => ?_) (fun hd => ?_)
  ·have hle := gP.le
   have hmul : i * (rel.length : Int) <= 64 := by
    have : i * (rel.length : Int) <= rel.length * rel.length := Int.mul_le_mul_of_nonneg_right h1 (by omega)
    omega
   refine ⟨?_, h0, hc, g0, by rw [hrow i h0 hc]; exact hd, ?_⟩
   ·unfold room; rw [nb_eq]; simp only [List.length_cons, List.length_nil]; omega
   refine join_of (fun s2 => s2.2.2.1 = num1 /\ (s2.2.2.2.2.1.length : Int) = j + 1 /\ PairP rel i (j + 1) s2.2.2.2.1.2.1 s2.2.2.2.1.2.2.1 /\ s2.2.2.2.1.1 = rel.length /\ s2.2.2.2.1.2.2.2.1 = [] /\ s2.2.2.2.1.2.2.2.2 = []) (fun s2 hs => ?_) (fun k hk => cnd_of (fun hx => ⟨?_, ?_, hk _ ⟨rfl, ?_, gP.add h0 hc g0 hd (by simpa using hx), rfl, rfl, rfl⟩⟩) (fun hx => hk _ ⟨rfl, ?_, gP.skip (by simpa using hx), rfl, rfl, rfl⟩))
   ·intros
    exact ⟨by rw [inK64]; (try dsimp only); omega, hn1 _ ⟨by dsimp only; omega, by dsimp only; omega, hs.1, hs.2.1, hs.2.2.1, hs.2.2.2.1, hs.2.2.2.2.1, hs.2.2.2.2.2⟩ (by first | omega | (dsimp only; omega))⟩
   ·unfold room; rw [nb_eq]; simp only [List.length_cons, List.length_nil]; omega
   ·have := gP.ft
    unfold room; rw [nb_eq]; simp only [List.length_cons, List.length_nil]; omega
   ·simp only [List.length_append, List.length_cons, List.length_nil]; omega
   ·simp only [List.length_append, List.length_cons, List.length_nil]; omega
  ·have ej : j = rel.length := by omega
   subst ej
   refine ⟨?_, by rw [inK64]; (try dsimp only); omega, hn _ ⟨by dsimp only; omega, by dsimp only; omega, ?_, ?_, gP.next, rfl, rfl, rfl⟩ (by first | omega | (dsimp only; omega))⟩
   ·unfold room; rw [nb_eq]; simp only [List.length_cons, List.length_nil]; omega
   ·simp only [List.length_append, List.length_cons, List.length_nil]; omega
   ·intro r hr
    rcases List.mem_append.1 hr with hr | hr
    ·exact h3 r hr
    ·simp only [List.mem_singleton] at hr; subst hr; omega
 have ei : i = rel.length := by omega
 subst ei
 have hnum : ∀ x : Int, 0 <= x -> x < rel.length -> (num.getD x.toNat []).length = rel.length := fun x x0 x1 => h3 _ (getD_mem num [] x0 (by omega))
 have hA : (A.length : Int) <= 64 := by have := hP.le; omega
 refine loop_of (fun (s : ((Unit × (Unit × (Int × Unit))) × ((Int × ((List Int) × ((List Int) × ((List Int) × (List (List Int)))))) × ((Int × ((List Int) × ((List Int) × ((List Int) × (List (List Int)))))) × Unit)))) => 0 <= s.1.2.2.1 /\ s.1.2.2.1 <= rel.length /\ s.2.2.1.1 = rel.length /\ s.2.2.1.2.1 = A /\ s.2.2.1.2.2.1 = B /\ (s.2.2.1.2.2.2.1.length : Int) = s.1.2.2.1 /\ s.2.2.1.2.2.2.2 = []) (fun (s : ((Unit × (Unit × (Int × Unit))) × ((Int × ((List Int) × ((List Int) × ((List Int) × (List (List Int)))))) × ((Int × ((List Int) × ((List Int) × ((List Int) × (List (List Int)))))) × Unit)))) => (rel.length - s.1.2.2.1).toNat) ?_ ⟨by simp, by simp, rfl, rfl, rfl, by simp, rfl⟩
 rintro ⟨⟨w1, w2, j, w3⟩, d1, ⟨ob1, A1, B1, I1, C1⟩, w4⟩ next1 ⟨g0, g1, g2, g3, g4, g5, g6⟩ hn1
 intros
 try dsimp only at g0 g1 g2 g3 g4 g5 g6 hn1 ⊢
 subst g2; subst g3; subst g4; subst g6
 refine cnd_d (fun hd => ?_) (fun hd => ?_)
 ·refine ⟨g0, by omega, g0, by rw [hnum j g0 hd]; exact hd, ?_, by rw [inK64]; (try dsimp only); omega, hn1 _ ⟨by dsimp only; omega, by dsimp only; omega, rfl, rfl, rfl, ?_, rfl⟩ (by first | omega | (dsimp only; omega))⟩
  ·unfold room; rw [nb_eq]; simp only [List.length_cons, List.length_nil]; omega
  ·simp only [List.length_append, List.length_cons, List.length_nil]; omega
 have ej : j = rel.length := by omega
 subst ej
 refine loop_of (fun (s : ((Unit × (Unit × (Int × Unit))) × ((Int × ((List Int) × ((List Int) × ((List Int) × (List (List Int)))))) × ((Int × ((List Int) × ((List Int) × ((List Int) × (List (List Int)))))) × Unit)))) => 0 <= s.1.2.2.1 /\ s.1.2.2.1 <= A1.length /\ s.2.2.1.1 = rel.length /\ s.2.2.1.2.1 = A1 /\ s.2.2.1.2.2.1 = B1 /\ s.2.2.1.2.2.2.1 = I1 /\ (s.2.2.1.2.2.2.2.length : Int) = s.1.2.2.1 /\ ∀ r ∈ s.2.2.1.2.2.2.2, r.length = A1.length) (fun (s : ((Unit × (Unit × (Int × Unit))) × ((Int × ((List Int) × ((List Int) × ((List Int) × (List (List Int)))))) × ((Int × ((List Int) × ((List Int) × ((List Int) × (List (List Int)))))) × Unit)))) => (A1.length - s.1.2.2.1).toNat) ?_ ⟨by simp, by simp, rfl, rfl, rfl, rfl, by simp, by simp⟩
 rintro ⟨⟨x1, x2, f, x3⟩, d2, ⟨ob2, A2, B2, I2, C2⟩, x4⟩ next2 ⟨k0, k1, k2, k3, k4, k5, k6, k7⟩ hn2
 intros
 try dsimp only at k0 k1 k2 k3 k4 k5 k6 k7 hn2 ⊢
 subst k2; subst k3; subst k4; subst k5
 have hft := hP.ft
 refine cnd_d (fun he => ?_) (fun he => ⟨by have := hP.le; rw [Int.add_zero] at this; exact_mod_cast this, hft, hP.inn, fun x y x0 x1 y0 y1 hr => hP.has x y x0 x1 y0 y1 (.inl x1) hr, rfl, by dsimp only; omega, by dsimp only; omega, k7⟩)
 refine loop_of (fun (s : ((Unit × (Unit × (Unit × (Int × Unit)))) × ((Int × ((List Int) × ((List Int) × ((List Int) × (List (List Int)))))) × ((Int × ((List Int) × ((List Int) × ((List Int) × (List (List Int)))))) × ((List Int) × Unit))))) => 0 <= s.1.2.2.2.1 /\ s.1.2.2.2.1 <= A2.length /\ s.2.2.1 = ((rel.length : Int), (A2, (B2, (I2, C2)))) /\ (s.2.2.2.1.length : Int) = s.1.2.2.2.1) (fun (s : ((Unit × (Unit × (Unit × (Int × Unit)))) × ((Int × ((List Int) × ((List Int) × ((List Int) × (List (List Int)))))) × ((Int × ((List Int) × ((List Int) × ((List Int) × (List (List Int)))))) × ((List Int) × Unit))))) => (A2.length - s.1.2.2.2.1).toNat) ?_ ⟨by simp, by simp, rfl, by simp⟩
 rintro ⟨⟨y1, y2, y3, g, y4⟩, d3, c3, row, y5⟩ next3 ⟨m0, m1, m2, m3⟩ hn3
 intros
 try dsimp only at m0 m1 m2 m3 hn3 ⊢
 subst m2
 try dsimp only at hn3 ⊢
 refine cnd_d (fun hq => ?_) (fun hq => ?_)
 ·have qf := hP.inn f k0 he
  have qg := hP.inn g m0 hq
  refine ⟨k0, by (try dsimp only); omega, m0, hq, ?_⟩
  refine join_of (fun s4 => s4.2.2.1 = ((rel.length : Int), (A2, (B2, (I2, C2)))) /\ s4.2.2.2.1 = row) (fun s4 hs => ?_) (fun kk hk => cnd_of (fun _ => ⟨k0, he, qf.1.1, by omega, m0, by (try dsimp only); omega, qg.2.1.1, by rw [hnum _ qf.1.1 qf.1.2]; exact qg.2.1.2, hk _ ⟨rfl, rfl⟩⟩) (fun _ => hk _ ⟨rfl, rfl⟩))
  intros
  have e4 := hs.2
  refine ⟨?_, by rw [inK64]; (try dsimp only); omega, hn3 _ ⟨by (try dsimp only); omega, by (try dsimp only); omega, hs.1, ?_⟩ (by first | omega | (dsimp only; omega))⟩
  ·unfold room; rw [nb_eq, e4]; simp only [List.length_cons, List.length_nil]; omega
  ·rw [e4]; simp only [List.length_append, List.length_cons, List.length_nil]; omega
 ·refine ⟨?_, by rw [inK64]; (try dsimp only); omega, hn2 _ ⟨by (try dsimp only); omega, by (try dsimp only); omega, rfl, rfl, rfl, rfl, ?_, ?_⟩ (by first | omega | (dsimp only; omega))⟩
  ·unfold room; rw [nb_eq]; simp only [List.length_cons, List.length_nil]; omega
  ·simp only [List.length_append, List.length_cons, List.length_nil]; omega
  ·intro r hr
   rcases List.mem_append.1 hr with hr | hr
   ·exact k7 r hr
   ·simp only [List.mem_singleton] at hr; subst hr; omega
theorem e_spec_l03Poset (rel : List (List Int)) : ∃ q : CategoryD × Unit, allP (okL c1_spec_l03Poset.args (rel, ())) -> allP (c1_spec_l03Poset.pre (rel, ())) -> W_spec_l03Poset rel (fun r => r = q) /\ allP (okR c1_spec_l03Poset.rt q) /\ Q_spec_l03Poset rel q.1 :=
 pick_by (f := 140) (Φ := lkp []) good_nil tab_ok (by kernel_rfl) (fn := Try.f140) (c := bodyOf Try.f140) (by kernel_rfl) (by kernel_rfl) (by kernel_rfl) c1_spec_l03Poset an_spec_l03Poset (cutL [(19, 510), (28, 10), (29, 13)]) (by kernel_rfl) (by kernel_rfl) k_spec_l03Poset (by decide) (by kernel_rfl) (fun x K => W_spec_l03Poset x.1 K) w_spec_l03Poset (fun x r => Q_spec_l03Poset x.1 r.1) (fun x h1 h2 => m_spec_l03Poset x.1 h1 h2) (rel, ())
def spec_l03Poset_r0R (rel : List (List Int)) : CategoryD := (e_spec_l03Poset rel).choose.1
theorem q_spec_l03Poset (rel : List (List Int)) (hok : allP (okL c1_spec_l03Poset.args (rel, ()))) (hpre : allP (c1_spec_l03Poset.pre (rel, ()))) : allP (okR c1_spec_l03Poset.rt (spec_l03Poset_r0R rel, ())) /\ Q_spec_l03Poset rel (spec_l03Poset_r0R rel) := ((e_spec_l03Poset rel).choose_spec hok hpre).2
def c_spec_l03Poset : Ct := ⟨[(.sl (.sl (.int .i64)))], [false], fun x => [TblR x.1], [(true, CategoryO)], fun x => ((spec_l03Poset_r0R x.1), ()), false, none⟩
theorem w2_spec_l03Poset (x : denL c_spec_l03Poset.args) (K : CategoryD × Unit -> Prop) : evF tab (lkp []) (cutL [(19, 510), (28, 10), (29, 13)]) Try.f140 (bodyOf Try.f140) an_spec_l03Poset c_spec_l03Poset x K = W_spec_l03Poset x.1 K := by kernel_rfl
theorem ct_spec_l03Poset : CtOk Try.prog 140 c_spec_l03Poset :=
 ct_by (Φ := lkp []) good_nil tab_ok (by kernel_rfl) (fn := Try.f140) (c := bodyOf Try.f140) (by kernel_rfl) (by kernel_rfl) (by kernel_rfl) c_spec_l03Poset rfl an_spec_l03Poset (cutL [(19, 510), (28, 10), (29, 13)]) (by kernel_rfl) (by kernel_rfl) k_spec_l03Poset (by decide) (fun x K => W_spec_l03Poset x.1 K) w2_spec_l03Poset (fun x h1 h2 => ((e_spec_l03Poset x.1).choose_spec h1 h2).1)
theorem poset_p {rel : List (List Int)} (h : TblR rel) (hk : (T.sl (.sl (.int .i64))).ok rel) : PosR rel (spec_l03Poset_r0R rel) :=
 (q_spec_l03Poset rel ⟨hk, trivial⟩ ⟨h, trivial⟩).2
structure MgR (m : MonoidalD) : Prop where
 ob : 1 <= m.2.2.1.length
 ar : 1 <= m.2.2.2.length
 a0 : 1 <= (m.2.2.2.getD 0 []).length
def c1_spec_DiscreteMonoidal : Ct := ⟨[(.sl (.sl (.int .i64)))], [false], fun x => [TblR x.1], [(true, (.p (.fz CategoryT) (.p (.fz (.int .i64)) (.p (.sl (.sl (.fz (.int .i64)))) (.sl (.sl (.fz (.int .i64)))))))), (false, (.fz (.int .i64)))], fun _ => dfR _, true, none⟩
def Q_spec_DiscreteMonoidal (table : List (List Int)) (r0 : MonoidalD) (r1 : Int) : Prop := (r1 = 0 -> MgR r0) /\ (montR table = true -> r1 = 0)
def an_spec_DiscreteMonoidal : Ann := (.s .n (.s .n (.s .n (.s .n (.s (.s .n (.l [(2, (.ad 2 [.de])), (4, (.ref 800004 [])), (5, (.d (.int .i64)))] [(2, (.pt (.p (.p (.fz (.int .i64)) (.p (.sl (.fz (.int .i64))) (.p (.sl (.fz (.int .i64))) (.p (.sl (.fz (.int .i64))) (.sl (.sl (.fz (.int .i64)))))))) (.p (.fz (.int .i64)) (.p (.sl (.sl (.fz (.int .i64)))) (.sl (.sl (.fz (.int .i64))))))))), (800004, (.sl (.sl (.fz (.int .i64)))))] [0] .n)) .n)))))
def ph_spec_DiscreteMonoidal : FuncId -> Option Ct := lkp [(155, c_spec_l01Own2), (140, c_spec_l03Poset), (167, c_spec_l35Monoid)]
def W_spec_DiscreteMonoidal (table : List (List Int)) (K : MonoidalD × Int × Unit -> Prop) : Prop := ((table.length <= 40) /\ (cnd (!(montR table)) (K (((0, ([], ([], ([], [])))), (0, ([], []))), (1, ()))) (cnd (decide (8 < ((table.length : Nat) : Int))) (K (((0, ([], ([], ([], [])))), (0, ([], []))), (3, ()))) (loopW (S := ((Unit × (Unit × (Int × Unit))) × (((Int × ((List Int) × ((List Int) × ((List Int) × (List (List Int)))))) × (Int × ((List (List Int)) × (List (List Int))))) × ((List (List Int)) × Unit)))) (fun s => (fun next => ((inK .i64 s.1.2.2.1) -> ((inK .i64 s.2.1.1.1) -> ((T.ok (.sl (.int .i64)) s.2.1.1.2.1) -> ((T.ok (.sl (.int .i64)) s.2.1.1.2.2.1) -> ((T.ok (.sl (.int .i64)) s.2.1.1.2.2.2.1) -> ((T.ok (.sl (.sl (.int .i64))) s.2.1.1.2.2.2.2) -> ((inK .i64 s.2.1.2.1) -> ((T.ok (.sl (.sl (.int .i64))) s.2.1.2.2.1) -> ((T.ok (.sl (.sl (.int .i64))) s.2.1.2.2.2) -> ((T.ok (.sl (.sl (.int .i64))) s.2.2.1) -> (cnd (decide (s.1.2.2.1 < ((table.length : Nat) : Int))) ((0 <= ((table.length : Nat) : Int)) /\ ((((table.length : Nat) : Int) <= ((table.length : Nat) : Int)) /\ ((((table.length : Nat) : Int) <= ((140737488355328 : Nat) : Int)) /\ (((((table.length : Nat) : Int) * ((8 : Nat) : Int)) <= ((140737488355328 : Nat) : Int)) /\ ((0 <= s.1.2.2.1) /\ ((s.1.2.2.1 < (((List.length (List.replicate (Int.toNat ((table.length : Nat) : Int)) (0 :Int))) : Nat) : Int)) /\ ((room s.2.2.1.length (List.length ((List.set (List.replicate (Int.toNat ((table.length : Nat) : Int)) (0 :Int)) s.1.2.2.1.toNat 1) :: [])) 24) /\ ((inK .i64 (s.1.2.2.1 + 1)) /\ (next (((), ((), ((s.1.2.2.1 + 1), ()))), (s.2.1, ((s.2.2.1 ++ ((List.set (List.replicate (Int.toNat ((table.length : Nat) : Int)) (0 :Int)) s.1.2.2.1.toNat 1) :: [])), ())))))))))))) ((TblR s.2.2.1) /\ ((OwnP table) /\ ((OwnP table) /\ (K (((spec_l03Poset_r0R s.2.2.1), (0, (table, table))), (0, ()))))))))))))))))))) (((), ((), (0, ()))), (((0, ([], ([], ([], [])))), (0, ([], []))), ([], ())))))))
theorem w_spec_DiscreteMonoidal (x : denL c1_spec_DiscreteMonoidal.args) (K : MonoidalD × Int × Unit -> Prop) : evF tab ph_spec_DiscreteMonoidal (cutL []) Try.f145 (bodyOf Try.f145) an_spec_DiscreteMonoidal c1_spec_DiscreteMonoidal x K = W_spec_DiscreteMonoidal x.1 K := by kernel_rfl
theorem k_spec_DiscreteMonoidal : okC Try.f145.ntmps (cutL []) (bodyOf Try.f145) = true := by kernel_rfl
theorem m_spec_DiscreteMonoidal (table : List (List Int)) (hok : allP (okL c1_spec_DiscreteMonoidal.args (table, ()))) (hpre : allP (c1_spec_DiscreteMonoidal.pre (table, ()))) : W_spec_DiscreteMonoidal table (fun r => Q_spec_DiscreteMonoidal table r.1 r.2.1) := by
 simp only [c1_spec_DiscreteMonoidal, okL, T.oks, T.ok, ap, allP, true_and, and_true, implies_true] at hok hpre
 try dsimp only [T.den] at hok
 try dsimp only [T.den] at hpre
 unfold W_spec_DiscreteMonoidal Q_spec_DiscreteMonoidal
 have hl := hpre.hi
 have hlo := hpre.lo
 refine ⟨by omega, cnd_of (fun hm => ⟨fun h => by simp at h, fun h => by rw [h] at hm; cases hm⟩) (fun _ => cnd_d (fun h8 => by omega) (fun _ => ?_))⟩
 refine loop_of (fun (s : ((Unit × (Unit × (Int × Unit))) × (((Int × ((List Int) × ((List Int) × ((List Int) × (List (List Int)))))) × (Int × ((List (List Int)) × (List (List Int))))) × ((List (List Int)) × Unit)))) => 0 <= s.1.2.2.1 /\ s.1.2.2.1 <= table.length /\ (s.2.2.1.length : Int) = s.1.2.2.1 /\ ∀ r ∈ s.2.2.1, r.length = table.length) (fun (s : ((Unit × (Unit × (Int × Unit))) × (((Int × ((List Int) × ((List Int) × ((List Int) × (List (List Int)))))) × (Int × ((List (List Int)) × (List (List Int))))) × ((List (List Int)) × Unit)))) => (table.length - s.1.2.2.1).toNat) ?_ ⟨by simp, by simp, by simp, by simp⟩
 rintro ⟨⟨_, _, i, _⟩, m, l, _⟩ next ⟨h0, h1, h2, h3⟩ hn
 intros
 try dsimp only at h0 h1 h2 h3 hn ⊢
 refine cnd_d (fun hc => ?_) (fun hc => ?_)
 ·refine ⟨by omega, Int.le_refl _, by omega, by omega, h0, by rw [List.length_replicate]; omega, ?_, by rw [inK64]; (try dsimp only); omega, hn _ ⟨by dsimp only; omega, by dsimp only; omega, ?_, ?_⟩ (by first | omega | (dsimp only; omega))⟩
  ·unfold room; rw [nb_eq]; simp only [List.length_cons, List.length_nil]; omega
  ·simp only [List.length_append, List.length_cons, List.length_nil]; omega
  ·intro r hr
   rcases List.mem_append.1 hr with hr | hr
   ·exact h3 r hr
   ·simp only [List.mem_singleton] at hr; subst hr; simp
 ·exact ⟨⟨by omega, by omega, fun r hr => by rw [h3 r hr]; omega⟩, hpre.own, hpre.own, fun _ => ⟨hlo, hlo, by
   have := hpre.row (i := 0) (by omega) (by omega)
   simp only [Int.toNat_zero] at this
   show 1 <= (table.getD 0 []).length
   omega⟩, fun _ => rfl⟩
theorem e_spec_DiscreteMonoidal (table : List (List Int)) : ∃ q : MonoidalD × Int × Unit, allP (okL c1_spec_DiscreteMonoidal.args (table, ())) -> allP (c1_spec_DiscreteMonoidal.pre (table, ())) -> W_spec_DiscreteMonoidal table (fun r => r = q) /\ allP (okR c1_spec_DiscreteMonoidal.rt q) /\ Q_spec_DiscreteMonoidal table q.1 q.2.1 :=
 pick_by (f := 145) (Φ := ph_spec_DiscreteMonoidal) (good_cons ct_spec_l01Own2 (good_cons ct_spec_l03Poset (good_cons ct_spec_l35Monoid good_nil))) tab_ok (by kernel_rfl) (fn := Try.f145) (c := bodyOf Try.f145) (by kernel_rfl) (by kernel_rfl) (by kernel_rfl) c1_spec_DiscreteMonoidal an_spec_DiscreteMonoidal (cutL []) (by kernel_rfl) (by kernel_rfl) k_spec_DiscreteMonoidal (by decide) (by kernel_rfl) (fun x K => W_spec_DiscreteMonoidal x.1 K) w_spec_DiscreteMonoidal (fun x r => Q_spec_DiscreteMonoidal x.1 r.1 r.2.1) (fun x h1 h2 => m_spec_DiscreteMonoidal x.1 h1 h2) (table, ())
def spec_DiscreteMonoidal_r0R (table : List (List Int)) : MonoidalD := (e_spec_DiscreteMonoidal table).choose.1
def spec_DiscreteMonoidal_r1R (table : List (List Int)) : Int := (e_spec_DiscreteMonoidal table).choose.2.1
theorem q_spec_DiscreteMonoidal (table : List (List Int)) (hok : allP (okL c1_spec_DiscreteMonoidal.args (table, ()))) (hpre : allP (c1_spec_DiscreteMonoidal.pre (table, ()))) : allP (okR c1_spec_DiscreteMonoidal.rt (spec_DiscreteMonoidal_r0R table, spec_DiscreteMonoidal_r1R table, ())) /\ Q_spec_DiscreteMonoidal table (spec_DiscreteMonoidal_r0R table) (spec_DiscreteMonoidal_r1R table) := ((e_spec_DiscreteMonoidal table).choose_spec hok hpre).2
def c_spec_DiscreteMonoidal : Ct := ⟨[(.sl (.sl (.int .i64)))], [false], fun x => [TblR x.1], [(true, (.p (.fz CategoryT) (.p (.fz (.int .i64)) (.p (.sl (.sl (.fz (.int .i64)))) (.sl (.sl (.fz (.int .i64)))))))), (false, (.fz (.int .i64)))], fun x => ((spec_DiscreteMonoidal_r0R x.1), (spec_DiscreteMonoidal_r1R x.1), ()), true, none⟩
theorem w2_spec_DiscreteMonoidal (x : denL c_spec_DiscreteMonoidal.args) (K : MonoidalD × Int × Unit -> Prop) : evF tab ph_spec_DiscreteMonoidal (cutL []) Try.f145 (bodyOf Try.f145) an_spec_DiscreteMonoidal c_spec_DiscreteMonoidal x K = W_spec_DiscreteMonoidal x.1 K := by kernel_rfl
theorem ct_spec_DiscreteMonoidal : CtOk Try.prog 145 c_spec_DiscreteMonoidal :=
 ct_by (Φ := ph_spec_DiscreteMonoidal) (good_cons ct_spec_l01Own2 (good_cons ct_spec_l03Poset (good_cons ct_spec_l35Monoid good_nil))) tab_ok (by kernel_rfl) (fn := Try.f145) (c := bodyOf Try.f145) (by kernel_rfl) (by kernel_rfl) (by kernel_rfl) c_spec_DiscreteMonoidal rfl an_spec_DiscreteMonoidal (cutL []) (by kernel_rfl) (by kernel_rfl) k_spec_DiscreteMonoidal (by decide) (fun x K => W_spec_DiscreteMonoidal x.1 K) w2_spec_DiscreteMonoidal (fun x h1 h2 => ((e_spec_DiscreteMonoidal x.1).choose_spec h1 h2).1)
theorem discrete_p {t : List (List Int)} (h : TblR t) (hk : (T.sl (.sl (.int .i64))).ok t) : (spec_DiscreteMonoidal_r1R t = 0 -> MgR (spec_DiscreteMonoidal_r0R t)) /\ (montR t = true -> spec_DiscreteMonoidal_r1R t = 0) :=
 (q_spec_DiscreteMonoidal t ⟨hk, trivial⟩ ⟨h, trivial⟩).2
def c1_spec_CommutativeMonoidal : Ct := ⟨[(.sl (.sl (.int .i64)))], [false], fun x => [TblR x.1], [(true, (.p (.fz CategoryT) (.p (.fz (.int .i64)) (.p (.sl (.sl (.fz (.int .i64)))) (.sl (.sl (.fz (.int .i64)))))))), (false, (.fz (.int .i64)))], fun _ => dfR _, true, none⟩
def Q_spec_CommutativeMonoidal (table : List (List Int)) (r0 : MonoidalD) (r1 : Int) : Prop := r1 = 0 -> MgR r0
def an_spec_CommutativeMonoidal : Ann := (.s .n (.s .n (.s (.s .n (.l [(2, (.ad 2 [.de])), (4, (.d (.int .i64)))] [(2, (.pt (.p (.p (.fz (.int .i64)) (.p (.sl (.fz (.int .i64))) (.p (.sl (.fz (.int .i64))) (.p (.sl (.fz (.int .i64))) (.sl (.sl (.fz (.int .i64)))))))) (.p (.fz (.int .i64)) (.p (.sl (.sl (.fz (.int .i64)))) (.sl (.sl (.fz (.int .i64)))))))))] [0] (.s .n (.s (.s .n (.l [(2, (.ad 2 [.de])), (5, (.d (.int .i64)))] [(2, (.pt (.p (.p (.fz (.int .i64)) (.p (.sl (.fz (.int .i64))) (.p (.sl (.fz (.int .i64))) (.p (.sl (.fz (.int .i64))) (.sl (.sl (.fz (.int .i64)))))))) (.p (.fz (.int .i64)) (.p (.sl (.sl (.fz (.int .i64)))) (.sl (.sl (.fz (.int .i64)))))))))] [0, 4] .n)) .n)))) .n)))
def ph_spec_CommutativeMonoidal : FuncId -> Option Ct := lkp [(155, c_spec_l01Own2), (151, c_spec_l03Monoid), (167, c_spec_l35Monoid)]
def W_spec_CommutativeMonoidal (table : List (List Int)) (K : MonoidalD × Int × Unit -> Prop) : Prop := ((table.length <= 40) /\ (cnd (!(montR table)) (K (((0, ([], ([], ([], [])))), (0, ([], []))), (1, ()))) (loopW (S := ((Unit × (Int × Unit)) × (((Int × ((List Int) × ((List Int) × ((List Int) × (List (List Int)))))) × (Int × ((List (List Int)) × (List (List Int))))) × Unit))) (fun s => (fun next => ((inK .i64 s.1.2.1) -> ((inK .i64 s.2.1.1.1) -> ((T.ok (.sl (.int .i64)) s.2.1.1.2.1) -> ((T.ok (.sl (.int .i64)) s.2.1.1.2.2.1) -> ((T.ok (.sl (.int .i64)) s.2.1.1.2.2.2.1) -> ((T.ok (.sl (.sl (.int .i64))) s.2.1.1.2.2.2.2) -> ((inK .i64 s.2.1.2.1) -> ((T.ok (.sl (.sl (.int .i64))) s.2.1.2.2.1) -> ((T.ok (.sl (.sl (.int .i64))) s.2.1.2.2.2) -> (cnd (decide (s.1.2.1 < ((table.length : Nat) : Int))) (loopW (S := ((Unit × (Int × Unit)) × (((Int × ((List Int) × ((List Int) × ((List Int) × (List (List Int)))))) × (Int × ((List (List Int)) × (List (List Int))))) × Unit))) (fun s1 => (fun next1 => ((inK .i64 s1.1.2.1) -> ((inK .i64 s1.2.1.1.1) -> ((T.ok (.sl (.int .i64)) s1.2.1.1.2.1) -> ((T.ok (.sl (.int .i64)) s1.2.1.1.2.2.1) -> ((T.ok (.sl (.int .i64)) s1.2.1.1.2.2.2.1) -> ((T.ok (.sl (.sl (.int .i64))) s1.2.1.1.2.2.2.2) -> ((inK .i64 s1.2.1.2.1) -> ((T.ok (.sl (.sl (.int .i64))) s1.2.1.2.2.1) -> ((T.ok (.sl (.sl (.int .i64))) s1.2.1.2.2.2) -> (cnd (decide (s1.1.2.1 < s.1.2.1)) ((0 <= s.1.2.1) /\ ((s.1.2.1 < ((table.length : Nat) : Int)) /\ ((0 <= s1.1.2.1) /\ ((s1.1.2.1 < (((List.length (List.getD table s.1.2.1.toNat [])) : Nat) : Int)) /\ ((0 <= s1.1.2.1) /\ ((s1.1.2.1 < ((table.length : Nat) : Int)) /\ ((0 <= s.1.2.1) /\ ((s.1.2.1 < (((List.length (List.getD table s1.1.2.1.toNat [])) : Nat) : Int)) /\ (cnd ((List.getD (List.getD table s.1.2.1.toNat []) s1.1.2.1.toNat 0) != (List.getD (List.getD table s1.1.2.1.toNat []) s.1.2.1.toNat 0)) (K (((0, ([], ([], ([], [])))), (0, ([], []))), (5, ()))) ((inK .i64 (s1.1.2.1 + 1)) /\ (next1 (((), ((s1.1.2.1 + 1), ())), (s1.2.1, ()))))))))))))) ((inK .i64 (s.1.2.1 + 1)) /\ (next (((), ((s.1.2.1 + 1), ())), (s1.2.1, ())))))))))))))))) (((), (0, ())), (s.2.1, ()))) (cnd (decide (40 < ((table.length : Nat) : Int))) (K (((0, ([], ([], ([], [])))), (0, ([], []))), (3, ()))) ((OwnP table) /\ ((OwnP table) /\ (K (((monoR table), (0, (((0 :: []) :: []), table))), (0, ())))))))))))))))))) (((), (0, ())), (((0, ([], ([], ([], [])))), (0, ([], []))), ())))))
theorem w_spec_CommutativeMonoidal (x : denL c1_spec_CommutativeMonoidal.args) (K : MonoidalD × Int × Unit -> Prop) : evF tab ph_spec_CommutativeMonoidal (cutL [(9, 14)]) Try.f147 (bodyOf Try.f147) an_spec_CommutativeMonoidal c1_spec_CommutativeMonoidal x K = W_spec_CommutativeMonoidal x.1 K := by kernel_rfl
theorem k_spec_CommutativeMonoidal : okC Try.f147.ntmps (cutL [(9, 14)]) (bodyOf Try.f147) = true := by kernel_rfl
theorem m_spec_CommutativeMonoidal (table : List (List Int)) (hok : allP (okL c1_spec_CommutativeMonoidal.args (table, ()))) (hpre : allP (c1_spec_CommutativeMonoidal.pre (table, ()))) : W_spec_CommutativeMonoidal table (fun r => Q_spec_CommutativeMonoidal table r.1 r.2.1) := by
 simp only [c1_spec_CommutativeMonoidal, okL, T.oks, T.ok, ap, allP, true_and, and_true, implies_true] at hok hpre
 try dsimp only [T.den] at hok
 try dsimp only [T.den] at hpre
 unfold W_spec_CommutativeMonoidal Q_spec_CommutativeMonoidal
 have hl := hpre.hi
 have hlo := hpre.lo
 refine ⟨by omega, cnd_of (fun _ => fun h => by simp at h) (fun _ => ?_)⟩
 refine loop_of (fun (s : ((Unit × (Int × Unit)) × (((Int × ((List Int) × ((List Int) × ((List Int) × (List (List Int)))))) × (Int × ((List (List Int)) × (List (List Int))))) × Unit))) => 0 <= s.1.2.1 /\ s.1.2.1 <= table.length) (fun (s : ((Unit × (Int × Unit)) × (((Int × ((List Int) × ((List Int) × ((List Int) × (List (List Int)))))) × (Int × ((List (List Int)) × (List (List Int))))) × Unit))) => (table.length - s.1.2.1).toNat) ?_ ⟨by simp, by simp⟩
 rintro ⟨⟨_, i, _⟩, m, _⟩ next ⟨h0, h1⟩ hn
 intros
 try dsimp only at h0 h1 hn ⊢
 refine cnd_d (fun hc => ?_) (fun hc => ?_)
 ·refine loop_of (fun (s : ((Unit × (Int × Unit)) × (((Int × ((List Int) × ((List Int) × ((List Int) × (List (List Int)))))) × (Int × ((List (List Int)) × (List (List Int))))) × Unit))) => 0 <= s.1.2.1 /\ s.1.2.1 <= i) (fun (s : ((Unit × (Int × Unit)) × (((Int × ((List Int) × ((List Int) × ((List Int) × (List (List Int)))))) × (Int × ((List (List Int)) × (List (List Int))))) × Unit))) => (i - s.1.2.1).toNat) ?_ ⟨by simp, by simpa using h0⟩
  rintro ⟨⟨_, j, _⟩, m1, _⟩ next1 ⟨g0, g1⟩ hn1
  intros
  try dsimp only at g0 g1 hn1 ⊢
  refine cnd_d (fun hd => ?_) (fun hd => ⟨by rw [inK64]; (try dsimp only); omega, hn _ ⟨by dsimp only; omega, by dsimp only; omega⟩ (by first | omega | (dsimp only; omega))⟩)
  exact ⟨h0, hc, g0, by rw [hpre.row h0 hc]; omega, g0, by omega, h0, by rw [hpre.row g0 (by omega)]; omega, cnd_of (fun _ => fun h => by simp at h) (fun _ => ⟨by rw [inK64]; (try dsimp only); omega, hn1 _ ⟨by dsimp only; omega, by dsimp only; omega⟩ (by first | omega | (dsimp only; omega))⟩)⟩
 ·refine cnd_d (fun _ => fun h => by simp at h) (fun _ => ⟨hpre.own, hpre.own, fun _ => ⟨by simp, hlo, by
   have := hpre.row (i := 0) (by omega) (by omega)
   simp only [Int.toNat_zero] at this
   show 1 <= (table.getD 0 []).length
   omega⟩⟩)
theorem e_spec_CommutativeMonoidal (table : List (List Int)) : ∃ q : MonoidalD × Int × Unit, allP (okL c1_spec_CommutativeMonoidal.args (table, ())) -> allP (c1_spec_CommutativeMonoidal.pre (table, ())) -> W_spec_CommutativeMonoidal table (fun r => r = q) /\ allP (okR c1_spec_CommutativeMonoidal.rt q) /\ Q_spec_CommutativeMonoidal table q.1 q.2.1 :=
 pick_by (f := 147) (Φ := ph_spec_CommutativeMonoidal) (good_cons ct_spec_l01Own2 (good_cons ct_spec_l03Monoid (good_cons ct_spec_l35Monoid good_nil))) tab_ok (by kernel_rfl) (fn := Try.f147) (c := bodyOf Try.f147) (by kernel_rfl) (by kernel_rfl) (by kernel_rfl) c1_spec_CommutativeMonoidal an_spec_CommutativeMonoidal (cutL [(9, 14)]) (by kernel_rfl) (by kernel_rfl) k_spec_CommutativeMonoidal (by decide) (by kernel_rfl) (fun x K => W_spec_CommutativeMonoidal x.1 K) w_spec_CommutativeMonoidal (fun x r => Q_spec_CommutativeMonoidal x.1 r.1 r.2.1) (fun x h1 h2 => m_spec_CommutativeMonoidal x.1 h1 h2) (table, ())
def spec_CommutativeMonoidal_r0R (table : List (List Int)) : MonoidalD := (e_spec_CommutativeMonoidal table).choose.1
def spec_CommutativeMonoidal_r1R (table : List (List Int)) : Int := (e_spec_CommutativeMonoidal table).choose.2.1
theorem q_spec_CommutativeMonoidal (table : List (List Int)) (hok : allP (okL c1_spec_CommutativeMonoidal.args (table, ()))) (hpre : allP (c1_spec_CommutativeMonoidal.pre (table, ()))) : allP (okR c1_spec_CommutativeMonoidal.rt (spec_CommutativeMonoidal_r0R table, spec_CommutativeMonoidal_r1R table, ())) /\ Q_spec_CommutativeMonoidal table (spec_CommutativeMonoidal_r0R table) (spec_CommutativeMonoidal_r1R table) := ((e_spec_CommutativeMonoidal table).choose_spec hok hpre).2
def c_spec_CommutativeMonoidal : Ct := ⟨[(.sl (.sl (.int .i64)))], [false], fun x => [TblR x.1], [(true, (.p (.fz CategoryT) (.p (.fz (.int .i64)) (.p (.sl (.sl (.fz (.int .i64)))) (.sl (.sl (.fz (.int .i64)))))))), (false, (.fz (.int .i64)))], fun x => ((spec_CommutativeMonoidal_r0R x.1), (spec_CommutativeMonoidal_r1R x.1), ()), true, none⟩
theorem w2_spec_CommutativeMonoidal (x : denL c_spec_CommutativeMonoidal.args) (K : MonoidalD × Int × Unit -> Prop) : evF tab ph_spec_CommutativeMonoidal (cutL [(9, 14)]) Try.f147 (bodyOf Try.f147) an_spec_CommutativeMonoidal c_spec_CommutativeMonoidal x K = W_spec_CommutativeMonoidal x.1 K := by kernel_rfl
theorem ct_spec_CommutativeMonoidal : CtOk Try.prog 147 c_spec_CommutativeMonoidal :=
 ct_by (Φ := ph_spec_CommutativeMonoidal) (good_cons ct_spec_l01Own2 (good_cons ct_spec_l03Monoid (good_cons ct_spec_l35Monoid good_nil))) tab_ok (by kernel_rfl) (fn := Try.f147) (c := bodyOf Try.f147) (by kernel_rfl) (by kernel_rfl) (by kernel_rfl) c_spec_CommutativeMonoidal rfl an_spec_CommutativeMonoidal (cutL [(9, 14)]) (by kernel_rfl) (by kernel_rfl) k_spec_CommutativeMonoidal (by decide) (fun x K => W_spec_CommutativeMonoidal x.1 K) w2_spec_CommutativeMonoidal (fun x h1 h2 => ((e_spec_CommutativeMonoidal x.1).choose_spec h1 h2).1)
theorem commutative_p {t : List (List Int)} (h : TblR t) (hk : (T.sl (.sl (.int .i64))).ok t) : spec_CommutativeMonoidal_r1R t = 0 -> MgR (spec_CommutativeMonoidal_r0R t) :=
 (q_spec_CommutativeMonoidal t ⟨hk, trivial⟩ ⟨h, trivial⟩).2
def c_spec_l02Fits : Ct := ⟨[CategoryT], [true], fun x => [], [(false, (.fz .bool))], fun x => ((decide (x.1.1 <= 8) && decide ((x.1.2.1.length : Int) <= 40)), ()), false, none⟩
def W_spec_l02Fits (c : CategoryD) (K : Bool × Unit -> Prop) : Prop := (K (((decide (c.1 <= 8)) && (decide (((c.2.1.length : Nat) : Int) <= 40))), ()))
theorem w_spec_l02Fits (x : denL c_spec_l02Fits.args) (K : Bool × Unit -> Prop) : evF tab (lkp []) (cutL []) Try.f107 (bodyOf Try.f107) .n c_spec_l02Fits x K = W_spec_l02Fits x.1 K := by kernel_rfl
theorem k_spec_l02Fits : okC Try.f107.ntmps (cutL []) (bodyOf Try.f107) = true := by kernel_rfl
theorem m_spec_l02Fits (c : CategoryD) (hok : allP (okL c_spec_l02Fits.args (c, ()))) (hpre : allP (c_spec_l02Fits.pre (c, ()))) : W_spec_l02Fits c (fun r => r = c_spec_l02Fits.res (c, ())) := by
 simp only [c_spec_l02Fits, okL, T.oks, T.ok, ap, allP, true_and, and_true, implies_true] at hok hpre
 try dsimp only [T.den] at hok
 try dsimp only [T.den] at hpre
 unfold W_spec_l02Fits
 rfl
theorem ct_spec_l02Fits : CtOk Try.prog 107 c_spec_l02Fits :=
 ct_by (Φ := lkp []) good_nil tab_ok (by kernel_rfl) (fn := Try.f107) (c := bodyOf Try.f107) (by kernel_rfl) (by kernel_rfl) (by kernel_rfl) c_spec_l02Fits rfl .n (cutL []) (by kernel_rfl) (by kernel_rfl) k_spec_l02Fits (by decide) (fun x K => W_spec_l02Fits x.1 K) w_spec_l02Fits (fun x h1 h2 => m_spec_l02Fits x.1 h1 h2)
def homR (c : CategoryD) (x y : Int) : List Int := selR c.2.1.length fun f => c.2.1.getD f.toNat 0 == x && c.2.2.1.getD f.toNat 0 == y
def c_spec_l02Hom : Ct := ⟨[CategoryT, (.int .i64), (.int .i64)], [true, false, false], fun x => [x.1.2.1.length <= 40, x.1.2.2.1.length = x.1.2.1.length], [(false, (.sl (.fz (.int .i64))))], fun x => (homR x.1 x.2.1 x.2.2.1, ()), false, none⟩
def an_spec_l02Hom : Ann := (.s .n (.s .n (.s (.s .n (.l [(7, (.ref 800007 [])), (8, (.d (.int .i64)))] [(800007, (.sl (.fz (.int .i64))))] [1, 2, 3] (.s .n (.s (.s .n (.j [(7, (.ref 800007 []))] [(800007, (.sl (.fz (.int .i64))))] [1, 2, 3, 8] .n)) .n)))) .n)))
def W_spec_l02Hom (c : CategoryD) (x : Int) (y : Int) (K : (List Int) × Unit -> Prop) : Prop := (loopW (S := ((Unit × (Int × Unit)) × ((List Int) × Unit))) (fun s => (fun next => ((inK .i64 s.1.2.1) -> ((T.ok (.sl (.int .i64)) s.2.1) -> (cnd (decide (s.1.2.1 < ((c.2.1.length : Nat) : Int))) ((0 <= s.1.2.1) /\ ((s.1.2.1 < ((c.2.1.length : Nat) : Int)) /\ (((((List.getD c.2.1 s.1.2.1.toNat 0) == x) = true) -> ((s.1.2.1 < ((c.2.2.1.length : Nat) : Int)) /\ (0 <= s.1.2.1))) /\ (joinW (S := ((Unit × Unit) × ((List Int) × Unit))) (fun s1 => ((T.ok (.sl (.int .i64)) s1.2.1) -> ((inK .i64 (s.1.2.1 + 1)) /\ (next (((), ((s.1.2.1 + 1), ())), (s1.2.1, ())))))) (fun k => (cnd (((List.getD c.2.1 s.1.2.1.toNat 0) == x) && ((List.getD c.2.2.1 s.1.2.1.toNat 0) == y)) ((room s.2.1.length (List.length (s.1.2.1 :: [])) 8) /\ (k (((), ()), ((s.2.1 ++ (s.1.2.1 :: [])), ())))) (k (((), ()), (s.2.1, ()))))))))) (K (s.2.1, ()))))))) (((), (0, ())), ([], ())))
theorem w_spec_l02Hom (x : denL c_spec_l02Hom.args) (K : (List Int) × Unit -> Prop) : evF tab (lkp []) (cutL []) Try.f131 (bodyOf Try.f131) an_spec_l02Hom c_spec_l02Hom x K = W_spec_l02Hom x.1 x.2.1 x.2.2.1 K := by kernel_rfl
theorem k_spec_l02Hom : okC Try.f131.ntmps (cutL []) (bodyOf Try.f131) = true := by kernel_rfl
theorem m_spec_l02Hom (c : CategoryD) (x : Int) (y : Int) (hok : allP (okL c_spec_l02Hom.args (c, x, y, ()))) (hpre : allP (c_spec_l02Hom.pre (c, x, y, ()))) : W_spec_l02Hom c x y (fun r => r = c_spec_l02Hom.res (c, x, y, ())) := by
 simp only [c_spec_l02Hom, okL, T.oks, T.ok, ap, allP, true_and, and_true, implies_true] at hok hpre
 try dsimp only [T.den] at hok
 try dsimp only [T.den] at hpre
 unfold W_spec_l02Hom
 have hm : c.2.1.length <= 40 := hpre.1
 have hlt : c.2.2.1.length = c.2.1.length := hpre.2
 refine loop_of (fun (s : ((Unit × (Int × Unit)) × ((List Int) × Unit))) => 0 <= s.1.2.1 /\ s.1.2.1 <= c.2.1.length /\ s.2.1 = selR s.1.2.1.toNat fun f => c.2.1.getD f.toNat 0 == x && c.2.2.1.getD f.toNat 0 == y) (fun (s : ((Unit × (Int × Unit)) × ((List Int) × Unit))) => (c.2.1.length - s.1.2.1).toNat) ?_ ⟨by simp, by simp, rfl⟩
 rintro ⟨⟨_, i, _⟩, l, _⟩ next ⟨h0, h1, h2⟩ hn hin hl
 try dsimp only at h0 h1 h2 hn ⊢
 subst h2
 refine cnd_d (fun hc => ⟨h0, hc, fun _ => by omega, join_of (fun s1 => s1.2.1 = selR (i + 1).toNat fun f => c.2.1.getD f.toNat 0 == x && c.2.2.1.getD f.toNat 0 == y) (fun s1 hs _ => ⟨by rw [inK64]; (try dsimp only); omega, hn _ ⟨(by first | omega | (dsimp only; omega)), (by first | omega | (dsimp only; omega)), hs⟩ (by first | omega | (dsimp only; omega))⟩) (fun k hk => cnd_of (fun hx => ⟨?_, hk _ ?_⟩) (fun hx => hk _ ?_))⟩) (fun hc => ?_)
 ·have := sel_len (p := fun f => c.2.1.getD f.toNat 0 == x && c.2.2.1.getD f.toNat 0 == y) i.toNat
  unfold room
  rw [nb_eq]
  have h3 : (i :: ([] : List Int)).length = 1 := rfl
  rw [h3]
  omega
 ·exact (sel_t h0 hx).symm
 ·exact (sel_f h0 hx).symm
 ·have e1 : i.toNat = c.2.1.length := by omega
  simp only [c_spec_l02Hom, homR]
  rw [e1]
theorem ct_spec_l02Hom : CtOk Try.prog 131 c_spec_l02Hom :=
 ct_by (Φ := lkp []) good_nil tab_ok (by kernel_rfl) (fn := Try.f131) (c := bodyOf Try.f131) (by kernel_rfl) (by kernel_rfl) (by kernel_rfl) c_spec_l02Hom rfl an_spec_l02Hom (cutL []) (by kernel_rfl) (by kernel_rfl) k_spec_l02Hom (by decide) (fun x K => W_spec_l02Hom x.1 x.2.1 x.2.2.1 K) w_spec_l02Hom (fun x h1 h2 => m_spec_l02Hom x.1 x.2.1 x.2.2.1 h1 h2)
def preoR (t : List (List Int)) : Bool := squareR t 2 && allB t.length fun i => decide (atR t i i = 1) && allB t.length fun j => allB t.length fun k => !(decide (atR t i j = 1) && decide (atR t j k = 1) && !decide (atR t i k = 1))
def c_spec_l03Preorder : Ct := ⟨[(.sl (.sl (.int .i64)))], [false], fun x => [x.1.length <= 40], [(false, (.fz .bool))], fun x => (preoR x.1, ()), false, none⟩
def an_spec_l03Preorder : Ann := (.s .n (.s .n (.s (.s .n (.l [(3, (.d (.int .i64)))] [] [0] (.s .n (.s (.s .n (.s .n (.l [(4, (.d (.int .i64)))] [] [0, 3] (.s .n (.s (.s .n (.l [(5, (.d (.int .i64)))] [] [0, 3, 4] .n)) .n))))) .n)))) .n)))
def W_spec_l03Preorder (rel : List (List Int)) (K : Bool × Unit -> Prop) : Prop := (cnd (!(squareR rel 2)) (K (false, ())) (loopW (S := ((Int × Unit) × Unit)) (fun s => (fun next => ((inK .i64 s.1.1) -> (cnd (decide (s.1.1 < ((rel.length : Nat) : Int))) ((0 <= s.1.1) /\ ((s.1.1 < ((rel.length : Nat) : Int)) /\ ((0 <= s.1.1) /\ ((s.1.1 < (((List.length (List.getD rel s.1.1.toNat [])) : Nat) : Int)) /\ (cnd ((List.getD (List.getD rel s.1.1.toNat []) s.1.1.toNat 0) != 1) (K (false, ())) (loopW (S := ((Int × Unit) × Unit)) (fun s1 => (fun next1 => ((inK .i64 s1.1.1) -> (cnd (decide (s1.1.1 < ((rel.length : Nat) : Int))) (loopW (S := ((Int × Unit) × Unit)) (fun s2 => (fun next2 => ((inK .i64 s2.1.1) -> (cnd (decide (s2.1.1 < ((rel.length : Nat) : Int))) ((0 <= s.1.1) /\ ((s.1.1 < ((rel.length : Nat) : Int)) /\ ((0 <= s1.1.1) /\ ((s1.1.1 < (((List.length (List.getD rel s.1.1.toNat [])) : Nat) : Int)) /\ (((((List.getD (List.getD rel s.1.1.toNat []) s1.1.1.toNat 0) == 1) = true) -> ((s1.1.1 < ((rel.length : Nat) : Int)) /\ (0 <= s1.1.1))) /\ (((((List.getD (List.getD rel s.1.1.toNat []) s1.1.1.toNat 0) == 1) = true) -> ((s2.1.1 < (((List.length (List.getD rel s1.1.1.toNat [])) : Nat) : Int)) /\ (0 <= s2.1.1))) /\ ((((((List.getD (List.getD rel s.1.1.toNat []) s1.1.1.toNat 0) == 1) && ((List.getD (List.getD rel s1.1.1.toNat []) s2.1.1.toNat 0) == 1)) = true) -> ((s.1.1 < ((rel.length : Nat) : Int)) /\ (0 <= s.1.1))) /\ ((((((List.getD (List.getD rel s.1.1.toNat []) s1.1.1.toNat 0) == 1) && ((List.getD (List.getD rel s1.1.1.toNat []) s2.1.1.toNat 0) == 1)) = true) -> ((s2.1.1 < (((List.length (List.getD rel s.1.1.toNat [])) : Nat) : Int)) /\ (0 <= s2.1.1))) /\ (cnd ((((List.getD (List.getD rel s.1.1.toNat []) s1.1.1.toNat 0) == 1) && ((List.getD (List.getD rel s1.1.1.toNat []) s2.1.1.toNat 0) == 1)) && ((List.getD (List.getD rel s.1.1.toNat []) s2.1.1.toNat 0) != 1)) (K (false, ())) ((inK .i64 (s2.1.1 + 1)) /\ (next2 (((s2.1.1 + 1), ()), ())))))))))))) ((inK .i64 (s1.1.1 + 1)) /\ (next1 (((s1.1.1 + 1), ()), ()))))))) ((0, ()), ())) ((inK .i64 (s.1.1 + 1)) /\ (next (((s.1.1 + 1), ()), ()))))))) ((0, ()), ()))))))) (K (true, ())))))) ((0, ()), ())))
theorem w_spec_l03Preorder (x : denL c_spec_l03Preorder.args) (K : Bool × Unit -> Prop) : evF tab (lkp [(129, c_spec_l03Square)]) (cutL []) Try.f168 (bodyOf Try.f168) an_spec_l03Preorder c_spec_l03Preorder x K = W_spec_l03Preorder x.1 K := by kernel_rfl
theorem k_spec_l03Preorder : okC Try.f168.ntmps (cutL []) (bodyOf Try.f168) = true := by kernel_rfl
theorem m_spec_l03Preorder (rel : List (List Int)) (hok : allP (okL c_spec_l03Preorder.args (rel, ()))) (hpre : allP (c_spec_l03Preorder.pre (rel, ()))) : W_spec_l03Preorder rel (fun r => r = c_spec_l03Preorder.res (rel, ())) := by
 simp only [c_spec_l03Preorder, okL, T.oks, T.ok, ap, allP, true_and, and_true, implies_true] at hok hpre
 try dsimp only [T.den] at hok
 try dsimp only [T.den] at hpre
 unfold W_spec_l03Preorder
 have hl : rel.length <= 40 := hpre
 clear hok
 refine cnd_of (fun hc => ?_) (fun hc => ?_)
 ·have hs : squareR rel 2 = false := by simpa using hc
  simp only [c_spec_l03Preorder, preoR, hs, Bool.false_and]
 have hs : squareR rel 2 = true := by simpa using hc
 have hlen : ∀ i : Int, 0 <= i -> i < rel.length -> (rel.getD i.toNat []).length = rel.length := fun i i0 i1 => by
  have := allB_iff.1 hs i i0 i1
  simp only [Bool.and_eq_true, decide_eq_true_eq] at this
  exact this.1
 refine loop_allB rel.length (fun i => decide (atR rel i i = 1) && allB rel.length fun j => allB rel.length fun k => !(decide (atR rel i j = 1) && decide (atR rel j k = 1) && !decide (atR rel i k = 1))) ?_ ?_
 ·intro i next i0 i1 hb1 hn1 _
  try dsimp only
  refine cnd_d (fun _ => ⟨i0, i1, i0, by rw [hlen i i0 i1]; exact i1, cnd_of (fun hx => ?_) (fun hx => ?_)⟩) (fun h => absurd i1 h)
  ·simp only [c_spec_l03Preorder, preoR, hs, Bool.true_and]
   rw [hb1 (by
    rw [bne_iff_ne] at hx
    rw [show decide (atR rel i i = 1) = false from decide_eq_false hx, Bool.false_and])]
  ·rw [bne_eq_false_iff_eq] at hx
   have e1 : decide (atR rel i i = 1) = true := decide_eq_true hx
   rw [e1, Bool.true_and] at hb1 hn1
   refine loop_allB rel.length (fun j => allB rel.length fun k => !(decide (atR rel i j = 1) && decide (atR rel j k = 1) && !decide (atR rel i k = 1))) ?_ ?_
   ·intro j next1 j0 j1 hb2 hn2 _
    try dsimp only
    refine cnd_d (fun _ => ?_) (fun h => absurd j1 h)
    refine loop_allB rel.length (fun k => !(decide (atR rel i j = 1) && decide (atR rel j k = 1) && !decide (atR rel i k = 1))) ?_ ?_
    ·intro k next2 k0 k1 hb3 hn3 _
     try dsimp only
     refine cnd_d (fun _ => ⟨i0, i1, j0, by rw [hlen i i0 i1]; exact j1, fun _ => ⟨j1, j0⟩, fun _ => ⟨by rw [hlen j j0 j1]; exact k1, k0⟩, fun _ => ⟨i1, i0⟩, fun _ => ⟨by rw [hlen i i0 i1]; exact k1, k0⟩, cnd_of (fun hy => ?_) (fun hy => ⟨by rw [inK64]; (try dsimp only); omega, hn3 ?_⟩)⟩) (fun h => absurd k1 h)
     ·simp only [c_spec_l03Preorder, preoR, hs, Bool.true_and]
      rw [hb1 (hb2 (hb3 ?_))]
      simp only [Bool.and_eq_true, beq_iff_eq, bne_iff_ne] at hy
      simp only [atR, hy.1.1, hy.1.2, decide_true, Bool.true_and, Bool.not_not, decide_eq_false_iff_not, Bool.not_eq_false']
      simpa [atR] using hy.2
     ·simp only [atR]
      grind
    ·intro next2 h3 _
     exact cnd_d (fun h => absurd h (by dsimp only; omega)) (fun _ => ⟨by rw [inK64]; (try dsimp only); omega, hn2 h3⟩)
   ·intro next1 h2 _
    exact cnd_d (fun h => absurd h (by dsimp only; omega)) (fun _ => ⟨by rw [inK64]; (try dsimp only); omega, hn1 h2⟩)
 ·intro next h1 _
  refine cnd_d (fun h => absurd h (by dsimp only; omega)) (fun _ => ?_)
  simp only [c_spec_l03Preorder, preoR, hs, h1, Bool.true_and]
theorem ct_spec_l03Preorder : CtOk Try.prog 168 c_spec_l03Preorder :=
 ct_by (Φ := lkp [(129, c_spec_l03Square)]) (good_cons ct_spec_l03Square good_nil) tab_ok (by kernel_rfl) (fn := Try.f168) (c := bodyOf Try.f168) (by kernel_rfl) (by kernel_rfl) (by kernel_rfl) c_spec_l03Preorder rfl an_spec_l03Preorder (cutL []) (by kernel_rfl) (by kernel_rfl) k_spec_l03Preorder (by decide) (fun x K => W_spec_l03Preorder x.1 K) w_spec_l03Preorder (fun x h1 h2 => m_spec_l03Preorder x.1 h1 h2)
def OrdP (rel t : List (List Int)) (a b c : Int) : Prop := (rel.getD a.toNat []).getD b.toNat 0 = 1 ->
 (rel.getD ((t.getD a.toNat []).getD c.toNat 0).toNat []).getD ((t.getD b.toNat []).getD c.toNat 0).toNat 0 = 1 /\ (rel.getD ((t.getD c.toNat []).getD a.toNat 0).toNat []).getD ((t.getD c.toNat []).getD b.toNat 0).toNat 0 = 1
def c1_spec_OrderMonoidal : Ct := ⟨[(.sl (.sl (.int .i64))), (.sl (.sl (.int .i64)))], [false, false], fun x => [TblR x.1, TblR x.2.1], [(true, (.p (.fz CategoryT) (.p (.fz (.int .i64)) (.p (.sl (.sl (.fz (.int .i64)))) (.sl (.sl (.fz (.int .i64)))))))), (false, (.fz (.int .i64)))], fun _ => dfR _, true, none⟩
def Q_spec_OrderMonoidal (relation : List (List Int)) (table : List (List Int)) (r0 : MonoidalD) (r1 : Int) : Prop := r1 = 0 -> MgR r0
def an_spec_OrderMonoidal : Ann := (.s .n (.s .n (.s .n (.s (.s .n (.l [(4, (.ad 4 [.de])), (7, (.d (.int .i64)))] [(4, (.pt (.p (.p (.fz (.int .i64)) (.p (.sl (.fz (.int .i64))) (.p (.sl (.fz (.int .i64))) (.p (.sl (.fz (.int .i64))) (.sl (.sl (.fz (.int .i64)))))))) (.p (.fz (.int .i64)) (.p (.sl (.sl (.fz (.int .i64)))) (.sl (.sl (.fz (.int .i64)))))))))] [0, 1, 6] (.s .n (.s (.s .n (.l [(4, (.ad 4 [.de])), (8, (.d (.int .i64)))] [(4, (.pt (.p (.p (.fz (.int .i64)) (.p (.sl (.fz (.int .i64))) (.p (.sl (.fz (.int .i64))) (.p (.sl (.fz (.int .i64))) (.sl (.sl (.fz (.int .i64)))))))) (.p (.fz (.int .i64)) (.p (.sl (.sl (.fz (.int .i64)))) (.sl (.sl (.fz (.int .i64)))))))))] [0, 1, 6, 7] (.s .n (.s (.s .n (.l [(4, (.ad 4 [.de])), (9, (.d (.int .i64)))] [(4, (.pt (.p (.p (.fz (.int .i64)) (.p (.sl (.fz (.int .i64))) (.p (.sl (.fz (.int .i64))) (.p (.sl (.fz (.int .i64))) (.sl (.sl (.fz (.int .i64)))))))) (.p (.fz (.int .i64)) (.p (.sl (.sl (.fz (.int .i64)))) (.sl (.sl (.fz (.int .i64)))))))))] [0, 1, 6, 7, 8] .n)) .n)))) .n)))) (.s .n (.s .n (.s .n (.s (.s .n (.l [(4, (.ad 4 [.de])), (11, (.ref 800011 [])), (12, (.d (.int .i64)))] [(4, (.pt (.p (.p (.fz (.int .i64)) (.p (.sl (.fz (.int .i64))) (.p (.sl (.fz (.int .i64))) (.p (.sl (.fz (.int .i64))) (.sl (.sl (.fz (.int .i64)))))))) (.p (.fz (.int .i64)) (.p (.sl (.sl (.fz (.int .i64)))) (.sl (.sl (.fz (.int .i64))))))))), (800011, (.sl (.sl (.fz (.int .i64)))))] [1, 10] (.s .n (.s (.s .n (.s (.s .n (.l [(4, (.ad 4 [.de])), (11, (.ref 800011 [])), (13, (.ref 800013 [])), (14, (.d (.int .i64)))] [(4, (.pt (.p (.p (.fz (.int .i64)) (.p (.sl (.fz (.int .i64))) (.p (.sl (.fz (.int .i64))) (.p (.sl (.fz (.int .i64))) (.sl (.sl (.fz (.int .i64)))))))) (.p (.fz (.int .i64)) (.p (.sl (.sl (.fz (.int .i64)))) (.sl (.sl (.fz (.int .i64))))))))), (800011, (.sl (.sl (.fz (.int .i64))))), (800013, (.sl (.fz (.int .i64))))] [1, 10, 12] .n)) .n)) .n)))) .n))))))))
def ph_spec_OrderMonoidal : FuncId -> Option Ct := lkp [(155, c_spec_l01Own2), (107, c_spec_l02Fits), (131, c_spec_l02Hom), (140, c_spec_l03Poset), (168, c_spec_l03Preorder), (167, c_spec_l35Monoid)]
def W_spec_OrderMonoidal (relation : List (List Int)) (table : List (List Int)) (K : MonoidalD × Int × Unit -> Prop) : Prop := ((relation.length <= 40) /\ ((((!(preoR relation)) = false) -> (table.length <= 40)) /\ (cnd (((!(preoR relation)) || (!(montR table))) || (((relation.length : Nat) : Int) != ((table.length : Nat) : Int))) (K (((0, ([], ([], ([], [])))), (0, ([], []))), (1, ()))) (loopW (S := ((Unit × (Int × Unit)) × (((Int × ((List Int) × ((List Int) × ((List Int) × (List (List Int)))))) × (Int × ((List (List Int)) × (List (List Int))))) × Unit))) (fun s => (fun next => ((inK .i64 s.1.2.1) -> ((inK .i64 s.2.1.1.1) -> ((T.ok (.sl (.int .i64)) s.2.1.1.2.1) -> ((T.ok (.sl (.int .i64)) s.2.1.1.2.2.1) -> ((T.ok (.sl (.int .i64)) s.2.1.1.2.2.2.1) -> ((T.ok (.sl (.sl (.int .i64))) s.2.1.1.2.2.2.2) -> ((inK .i64 s.2.1.2.1) -> ((T.ok (.sl (.sl (.int .i64))) s.2.1.2.2.1) -> ((T.ok (.sl (.sl (.int .i64))) s.2.1.2.2.2) -> (cnd (decide (s.1.2.1 < ((table.length : Nat) : Int))) (loopW (S := ((Unit × (Int × Unit)) × (((Int × ((List Int) × ((List Int) × ((List Int) × (List (List Int)))))) × (Int × ((List (List Int)) × (List (List Int))))) × Unit))) (fun s1 => (fun next1 => ((inK .i64 s1.1.2.1) -> ((inK .i64 s1.2.1.1.1) -> ((T.ok (.sl (.int .i64)) s1.2.1.1.2.1) -> ((T.ok (.sl (.int .i64)) s1.2.1.1.2.2.1) -> ((T.ok (.sl (.int .i64)) s1.2.1.1.2.2.2.1) -> ((T.ok (.sl (.sl (.int .i64))) s1.2.1.1.2.2.2.2) -> ((inK .i64 s1.2.1.2.1) -> ((T.ok (.sl (.sl (.int .i64))) s1.2.1.2.2.1) -> ((T.ok (.sl (.sl (.int .i64))) s1.2.1.2.2.2) -> (cnd (decide (s1.1.2.1 < ((table.length : Nat) : Int))) (loopW (S := ((Unit × (Int × Unit)) × (((Int × ((List Int) × ((List Int) × ((List Int) × (List (List Int)))))) × (Int × ((List (List Int)) × (List (List Int))))) × Unit))) (fun s2 => (fun next2 => ((inK .i64 s2.1.2.1) -> ((inK .i64 s2.2.1.1.1) -> ((T.ok (.sl (.int .i64)) s2.2.1.1.2.1) -> ((T.ok (.sl (.int .i64)) s2.2.1.1.2.2.1) -> ((T.ok (.sl (.int .i64)) s2.2.1.1.2.2.2.1) -> ((T.ok (.sl (.sl (.int .i64))) s2.2.1.1.2.2.2.2) -> ((inK .i64 s2.2.1.2.1) -> ((T.ok (.sl (.sl (.int .i64))) s2.2.1.2.2.1) -> ((T.ok (.sl (.sl (.int .i64))) s2.2.1.2.2.2) -> (cnd (decide (s2.1.2.1 < ((table.length : Nat) : Int))) ((0 <= s.1.2.1) /\ ((s.1.2.1 < ((relation.length : Nat) : Int)) /\ ((0 <= s1.1.2.1) /\ ((s1.1.2.1 < (((List.length (List.getD relation s.1.2.1.toNat [])) : Nat) : Int)) /\ (((((List.getD (List.getD relation s.1.2.1.toNat []) s1.1.2.1.toNat 0) == 1) = true) -> ((s.1.2.1 < ((table.length : Nat) : Int)) /\ (0 <= s.1.2.1))) /\ (((((List.getD (List.getD relation s.1.2.1.toNat []) s1.1.2.1.toNat 0) == 1) = true) -> ((s2.1.2.1 < (((List.length (List.getD table s.1.2.1.toNat [])) : Nat) : Int)) /\ (0 <= s2.1.2.1))) /\ (((((List.getD (List.getD relation s.1.2.1.toNat []) s1.1.2.1.toNat 0) == 1) = true) -> (((List.getD (List.getD table s.1.2.1.toNat []) s2.1.2.1.toNat 0) < ((relation.length : Nat) : Int)) /\ (0 <= (List.getD (List.getD table s.1.2.1.toNat []) s2.1.2.1.toNat 0)))) /\ (((((List.getD (List.getD relation s.1.2.1.toNat []) s1.1.2.1.toNat 0) == 1) = true) -> ((s1.1.2.1 < ((table.length : Nat) : Int)) /\ (0 <= s1.1.2.1))) /\ (((((List.getD (List.getD relation s.1.2.1.toNat []) s1.1.2.1.toNat 0) == 1) = true) -> ((s2.1.2.1 < (((List.length (List.getD table s1.1.2.1.toNat [])) : Nat) : Int)) /\ (0 <= s2.1.2.1))) /\ (((((List.getD (List.getD relation s.1.2.1.toNat []) s1.1.2.1.toNat 0) == 1) = true) -> (((List.getD (List.getD table s1.1.2.1.toNat []) s2.1.2.1.toNat 0) < (((List.length (List.getD relation (Int.toNat (List.getD (List.getD table s.1.2.1.toNat []) s2.1.2.1.toNat 0)) [])) : Nat) : Int)) /\ (0 <= (List.getD (List.getD table s1.1.2.1.toNat []) s2.1.2.1.toNat 0)))) /\ ((((((List.getD (List.getD relation s.1.2.1.toNat []) s1.1.2.1.toNat 0) == 1) = true) /\ (((List.getD (List.getD relation (Int.toNat (List.getD (List.getD table s.1.2.1.toNat []) s2.1.2.1.toNat 0)) []) (Int.toNat (List.getD (List.getD table s1.1.2.1.toNat []) s2.1.2.1.toNat 0)) 0) != 1) = false)) -> ((s2.1.2.1 < ((table.length : Nat) : Int)) /\ (0 <= s2.1.2.1))) /\ ((((((List.getD (List.getD relation s.1.2.1.toNat []) s1.1.2.1.toNat 0) == 1) = true) /\ (((List.getD (List.getD relation (Int.toNat (List.getD (List.getD table s.1.2.1.toNat []) s2.1.2.1.toNat 0)) []) (Int.toNat (List.getD (List.getD table s1.1.2.1.toNat []) s2.1.2.1.toNat 0)) 0) != 1) = false)) -> ((s.1.2.1 < (((List.length (List.getD table s2.1.2.1.toNat [])) : Nat) : Int)) /\ (0 <= s.1.2.1))) /\ ((((((List.getD (List.getD relation s.1.2.1.toNat []) s1.1.2.1.toNat 0) == 1) = true) /\ (((List.getD (List.getD relation (Int.toNat (List.getD (List.getD table s.1.2.1.toNat []) s2.1.2.1.toNat 0)) []) (Int.toNat (List.getD (List.getD table s1.1.2.1.toNat []) s2.1.2.1.toNat 0)) 0) != 1) = false)) -> (((List.getD (List.getD table s2.1.2.1.toNat []) s.1.2.1.toNat 0) < ((relation.length : Nat) : Int)) /\ (0 <= (List.getD (List.getD table s2.1.2.1.toNat []) s.1.2.1.toNat 0)))) /\ ((((((List.getD (List.getD relation s.1.2.1.toNat []) s1.1.2.1.toNat 0) == 1) = true) /\ (((List.getD (List.getD relation (Int.toNat (List.getD (List.getD table s.1.2.1.toNat []) s2.1.2.1.toNat 0)) []) (Int.toNat (List.getD (List.getD table s1.1.2.1.toNat []) s2.1.2.1.toNat 0)) 0) != 1) = false)) -> ((s2.1.2.1 < ((table.length : Nat) : Int)) /\ (0 <= s2.1.2.1))) /\ ((((((List.getD (List.getD relation s.1.2.1.toNat []) s1.1.2.1.toNat 0) == 1) = true) /\ (((List.getD (List.getD relation (Int.toNat (List.getD (List.getD table s.1.2.1.toNat []) s2.1.2.1.toNat 0)) []) (Int.toNat (List.getD (List.getD table s1.1.2.1.toNat []) s2.1.2.1.toNat 0)) 0) != 1) = false)) -> ((s1.1.2.1 < (((List.length (List.getD table s2.1.2.1.toNat [])) : Nat) : Int)) /\ (0 <= s1.1.2.1))) /\ ((((((List.getD (List.getD relation s.1.2.1.toNat []) s1.1.2.1.toNat 0) == 1) = true) /\ (((List.getD (List.getD relation (Int.toNat (List.getD (List.getD table s.1.2.1.toNat []) s2.1.2.1.toNat 0)) []) (Int.toNat (List.getD (List.getD table s1.1.2.1.toNat []) s2.1.2.1.toNat 0)) 0) != 1) = false)) -> (((List.getD (List.getD table s2.1.2.1.toNat []) s1.1.2.1.toNat 0) < (((List.length (List.getD relation (Int.toNat (List.getD (List.getD table s2.1.2.1.toNat []) s.1.2.1.toNat 0)) [])) : Nat) : Int)) /\ (0 <= (List.getD (List.getD table s2.1.2.1.toNat []) s1.1.2.1.toNat 0)))) /\ (cnd (((List.getD (List.getD relation s.1.2.1.toNat []) s1.1.2.1.toNat 0) == 1) && (((List.getD (List.getD relation (Int.toNat (List.getD (List.getD table s.1.2.1.toNat []) s2.1.2.1.toNat 0)) []) (Int.toNat (List.getD (List.getD table s1.1.2.1.toNat []) s2.1.2.1.toNat 0)) 0) != 1) || ((List.getD (List.getD relation (Int.toNat (List.getD (List.getD table s2.1.2.1.toNat []) s.1.2.1.toNat 0)) []) (Int.toNat (List.getD (List.getD table s2.1.2.1.toNat []) s1.1.2.1.toNat 0)) 0) != 1))) (K (((0, ([], ([], ([], [])))), (0, ([], []))), (5, ()))) ((inK .i64 (s2.1.2.1 + 1)) /\ (next2 (((), ((s2.1.2.1 + 1), ())), (s2.2.1, ()))))))))))))))))))))) ((inK .i64 (s1.1.2.1 + 1)) /\ (next1 (((), ((s1.1.2.1 + 1), ())), (s2.2.1, ())))))))))))))))) (((), (0, ())), (s1.2.1, ()))) ((inK .i64 (s.1.2.1 + 1)) /\ (next (((), ((s.1.2.1 + 1), ())), (s1.2.1, ())))))))))))))))) (((), (0, ())), (s.2.1, ()))) ((TblR relation) /\ (cnd (!((decide ((spec_l03Poset_r0R relation).1 <= 8)) && (decide ((((List.length (spec_l03Poset_r0R relation).2.1) : Nat) : Int) <= 40)))) (K (((0, ([], ([], ([], [])))), (0, ([], []))), (3, ()))) (loopW (S := ((Unit × (Unit × (Int × Unit))) × (((Int × ((List Int) × ((List Int) × ((List Int) × (List (List Int)))))) × (Int × ((List (List Int)) × (List (List Int))))) × ((List (List Int)) × Unit)))) (fun s1 => (fun next1 => ((inK .i64 s1.1.2.2.1) -> ((inK .i64 s1.2.1.1.1) -> ((T.ok (.sl (.int .i64)) s1.2.1.1.2.1) -> ((T.ok (.sl (.int .i64)) s1.2.1.1.2.2.1) -> ((T.ok (.sl (.int .i64)) s1.2.1.1.2.2.2.1) -> ((T.ok (.sl (.sl (.int .i64))) s1.2.1.1.2.2.2.2) -> ((inK .i64 s1.2.1.2.1) -> ((T.ok (.sl (.sl (.int .i64))) s1.2.1.2.2.1) -> ((T.ok (.sl (.sl (.int .i64))) s1.2.1.2.2.2) -> ((T.ok (.sl (.sl (.int .i64))) s1.2.2.1) -> (cnd (decide (s1.1.2.2.1 < (((List.length (spec_l03Poset_r0R relation).2.1) : Nat) : Int))) (loopW (S := ((Unit × (Unit × (Unit × (Int × Unit)))) × (((Int × ((List Int) × ((List Int) × ((List Int) × (List (List Int)))))) × (Int × ((List (List Int)) × (List (List Int))))) × ((List (List Int)) × ((List Int) × Unit))))) (fun s2 => (fun next2 => ((inK .i64 s2.1.2.2.2.1) -> ((inK .i64 s2.2.1.1.1) -> ((T.ok (.sl (.int .i64)) s2.2.1.1.2.1) -> ((T.ok (.sl (.int .i64)) s2.2.1.1.2.2.1) -> ((T.ok (.sl (.int .i64)) s2.2.1.1.2.2.2.1) -> ((T.ok (.sl (.sl (.int .i64))) s2.2.1.1.2.2.2.2) -> ((inK .i64 s2.2.1.2.1) -> ((T.ok (.sl (.sl (.int .i64))) s2.2.1.2.2.1) -> ((T.ok (.sl (.sl (.int .i64))) s2.2.1.2.2.2) -> ((T.ok (.sl (.sl (.int .i64))) s2.2.2.1) -> ((T.ok (.sl (.int .i64)) s2.2.2.2.1) -> (cnd (decide (s2.1.2.2.2.1 < (((List.length (spec_l03Poset_r0R relation).2.1) : Nat) : Int))) ((0 <= s1.1.2.2.1) /\ ((s1.1.2.2.1 < (((List.length (spec_l03Poset_r0R relation).2.1) : Nat) : Int)) /\ ((0 <= (List.getD (spec_l03Poset_r0R relation).2.1 s1.1.2.2.1.toNat 0)) /\ (((List.getD (spec_l03Poset_r0R relation).2.1 s1.1.2.2.1.toNat 0) < ((table.length : Nat) : Int)) /\ ((0 <= s2.1.2.2.2.1) /\ ((s2.1.2.2.2.1 < (((List.length (spec_l03Poset_r0R relation).2.1) : Nat) : Int)) /\ ((0 <= (List.getD (spec_l03Poset_r0R relation).2.1 s2.1.2.2.2.1.toNat 0)) /\ (((List.getD (spec_l03Poset_r0R relation).2.1 s2.1.2.2.2.1.toNat 0) < (((List.length (List.getD table (Int.toNat (List.getD (spec_l03Poset_r0R relation).2.1 s1.1.2.2.1.toNat 0)) [])) : Nat) : Int)) /\ ((0 <= s1.1.2.2.1) /\ ((s1.1.2.2.1 < (((List.length (spec_l03Poset_r0R relation).2.2.1) : Nat) : Int)) /\ ((0 <= (List.getD (spec_l03Poset_r0R relation).2.2.1 s1.1.2.2.1.toNat 0)) /\ (((List.getD (spec_l03Poset_r0R relation).2.2.1 s1.1.2.2.1.toNat 0) < ((table.length : Nat) : Int)) /\ ((0 <= s2.1.2.2.2.1) /\ ((s2.1.2.2.2.1 < (((List.length (spec_l03Poset_r0R relation).2.2.1) : Nat) : Int)) /\ ((0 <= (List.getD (spec_l03Poset_r0R relation).2.2.1 s2.1.2.2.2.1.toNat 0)) /\ (((List.getD (spec_l03Poset_r0R relation).2.2.1 s2.1.2.2.2.1.toNat 0) < (((List.length (List.getD table (Int.toNat (List.getD (spec_l03Poset_r0R relation).2.2.1 s1.1.2.2.1.toNat 0)) [])) : Nat) : Int)) /\ (((List.length (spec_l03Poset_r0R relation).2.1) <= 40) /\ (((List.length (spec_l03Poset_r0R relation).2.2.1) = (List.length (spec_l03Poset_r0R relation).2.1)) /\ (((0 : Int) <= 0) /\ ((0 < (((List.length (homR (spec_l03Poset_r0R relation) (List.getD (List.getD table (Int.toNat (List.getD (spec_l03Poset_r0R relation).2.1 s1.1.2.2.1.toNat 0)) []) (Int.toNat (List.getD (spec_l03Poset_r0R relation).2.1 s2.1.2.2.2.1.toNat 0)) 0) (List.getD (List.getD table (Int.toNat (List.getD (spec_l03Poset_r0R relation).2.2.1 s1.1.2.2.1.toNat 0)) []) (Int.toNat (List.getD (spec_l03Poset_r0R relation).2.2.1 s2.1.2.2.2.1.toNat 0)) 0))) : Nat) : Int)) /\ ((room s2.2.2.2.1.length (List.length ((List.getD (homR (spec_l03Poset_r0R relation) (List.getD (List.getD table (Int.toNat (List.getD (spec_l03Poset_r0R relation).2.1 s1.1.2.2.1.toNat 0)) []) (Int.toNat (List.getD (spec_l03Poset_r0R relation).2.1 s2.1.2.2.2.1.toNat 0)) 0) (List.getD (List.getD table (Int.toNat (List.getD (spec_l03Poset_r0R relation).2.2.1 s1.1.2.2.1.toNat 0)) []) (Int.toNat (List.getD (spec_l03Poset_r0R relation).2.2.1 s2.1.2.2.2.1.toNat 0)) 0)) (Int.toNat 0) 0) :: [])) 8) /\ ((inK .i64 (s2.1.2.2.2.1 + 1)) /\ (next2 (((), ((), ((), ((s2.1.2.2.2.1 + 1), ())))), (s2.2.1, (s2.2.2.1, ((s2.2.2.2.1 ++ ((List.getD (homR (spec_l03Poset_r0R relation) (List.getD (List.getD table (Int.toNat (List.getD (spec_l03Poset_r0R relation).2.1 s1.1.2.2.1.toNat 0)) []) (Int.toNat (List.getD (spec_l03Poset_r0R relation).2.1 s2.1.2.2.2.1.toNat 0)) 0) (List.getD (List.getD table (Int.toNat (List.getD (spec_l03Poset_r0R relation).2.2.1 s1.1.2.2.1.toNat 0)) []) (Int.toNat (List.getD (spec_l03Poset_r0R relation).2.2.1 s2.1.2.2.2.1.toNat 0)) 0)) (Int.toNat 0) 0) :: [])), ()))))))))))))))))))))))))))) ((room s2.2.2.1.length (List.length (s2.2.2.2.1 :: [])) 24) /\ ((inK .i64 (s1.1.2.2.1 + 1)) /\ (next1 (((), ((), ((s1.1.2.2.1 + 1), ()))), (s2.2.1, ((s2.2.2.1 ++ (s2.2.2.2.1 :: [])), ())))))))))))))))))))) (((), ((), ((), (0, ())))), (s1.2.1, (s1.2.2.1, ([], ()))))) ((OwnP table) /\ (K (((spec_l03Poset_r0R relation), (0, (table, s1.2.2.1))), (0, ()))))))))))))))))) (((), ((), (0, ()))), (s.2.1, ([], ())))))))))))))))))) (((), (0, ())), (((0, ([], ([], ([], [])))), (0, ([], []))), ()))))))
theorem w_spec_OrderMonoidal (x : denL c1_spec_OrderMonoidal.args) (K : MonoidalD × Int × Unit -> Prop) : evF tab ph_spec_OrderMonoidal (cutL [(26, 532), (28, 504), (13, 47)]) Try.f148 (bodyOf Try.f148) an_spec_OrderMonoidal c1_spec_OrderMonoidal x K = W_spec_OrderMonoidal x.1 x.2.1 K := by kernel_rfl
theorem k_spec_OrderMonoidal : okC Try.f148.ntmps (cutL [(26, 532), (28, 504), (13, 47)]) (bodyOf Try.f148) = true := by kernel_rfl
theorem m_spec_OrderMonoidal (relation : List (List Int)) (table : List (List Int)) (hok : allP (okL c1_spec_OrderMonoidal.args (relation, table, ()))) (hpre : allP (c1_spec_OrderMonoidal.pre (relation, table, ()))) : W_spec_OrderMonoidal relation table (fun r => Q_spec_OrderMonoidal relation table r.1 r.2.1) := by
 simp only [c1_spec_OrderMonoidal, okL, T.oks, T.ok, ap, allP, true_and, and_true, implies_true] at hok hpre
 try dsimp only [T.den] at hok
 try dsimp only [T.den] at hpre
 unfold W_spec_OrderMonoidal Q_spec_OrderMonoidal
 have hrl := hpre.1
 have htl : TblR table := hpre.2
 have h1 := hrl.hi
 have h2 := htl.hi
 have h3 := htl.lo
 refine ⟨by omega, fun _ => by omega, cnd_of (fun _ => fun h => by simp at h) (fun hc => ?_)⟩
 simp only [Bool.or_eq_false_iff, Bool.not_eq_false', bne_eq_false_iff_eq] at hc
 obtain ⟨⟨hpr, hmo⟩, hlen0⟩ := hc
 have hlen : relation.length = table.length := by omega
 simp only [montR, Bool.and_eq_true, decide_eq_true_eq] at hmo
 have hT : ∀ i j : Int, 0 <= i -> i < table.length -> 0 <= j -> j < table.length -> 0 <= (table.getD i.toNat []).getD j.toNat 0 /\ (table.getD i.toNat []).getD j.toNat 0 < table.length := fun i j i0 i1 j0 j1 => by
  have := square_iff.1 hmo.1.2 i i0 i1
  exact within_iff.1 this.2 j j0 (by omega)
 have hTl : ∀ i : Int, 0 <= i -> i < table.length -> ((table.getD i.toNat []).length : Int) = table.length := fun i i0 i1 => by rw [htl.row i0 i1]
 have hRl : ∀ i : Int, 0 <= i -> i < table.length -> ((relation.getD i.toNat []).length : Int) = table.length := fun i i0 i1 => by rw [hrl.row i0 (by omega), hlen]
 simp only [preoR, Bool.and_eq_true, allB_iff, decide_eq_true_eq] at hpr
 have hdiag : ∀ i : Int, 0 <= i -> i < table.length -> (relation.getD i.toNat []).getD i.toNat 0 = 1 := fun i i0 i1 => (hpr.2 i i0 (by omega)).1
 have htr : ∀ i j k : Int, 0 <= i -> i < table.length -> 0 <= j -> j < table.length -> 0 <= k -> k < table.length -> (relation.getD i.toNat []).getD j.toNat 0 = 1 -> (relation.getD j.toNat []).getD k.toNat 0 = 1 -> (relation.getD i.toNat []).getD k.toNat 0 = 1 := fun i j k i0 i1 j0 j1 k0 k1 e1 e2 => by
  have := (hpr.2 i i0 (by omega)).2 j j0 (by omega) k k0 (by omega)
  simp only [atR, e1, e2, decide_true, Bool.true_and, Bool.not_not, decide_eq_true_eq] at this
  exact of_decide_eq_true this
 refine loop_of (fun (s : ((Unit × (Int × Unit)) × (((Int × ((List Int) × ((List Int) × ((List Int) × (List (List Int)))))) × (Int × ((List (List Int)) × (List (List Int))))) × Unit))) => 0 <= s.1.2.1 /\ s.1.2.1 <= table.length /\ ∀ a b c : Int, 0 <= a -> a < s.1.2.1 -> 0 <= b -> b < table.length -> 0 <= c -> c < table.length -> OrdP relation table a b c) (fun (s : ((Unit × (Int × Unit)) × (((Int × ((List Int) × ((List Int) × ((List Int) × (List (List Int)))))) × (Int × ((List (List Int)) × (List (List Int))))) × Unit))) => (table.length - s.1.2.1).toNat) ?_ ⟨by simp, by simp, fun a b c a0 a1 => by simp at a1; omega⟩
 rintro ⟨⟨u1, a, u2⟩, m, u3⟩ next ⟨a0, a1, hP⟩ hn
 intros
 try dsimp only at a0 a1 hP hn ⊢
 refine cnd_d (fun ha => ?_) (fun ha => ?_)
 ·refine loop_of (fun (s : ((Unit × (Int × Unit)) × (((Int × ((List Int) × ((List Int) × ((List Int) × (List (List Int)))))) × (Int × ((List (List Int)) × (List (List Int))))) × Unit))) => 0 <= s.1.2.1 /\ s.1.2.1 <= table.length /\ ∀ b c : Int, 0 <= b -> b < s.1.2.1 -> 0 <= c -> c < table.length -> OrdP relation table a b c) (fun (s : ((Unit × (Int × Unit)) × (((Int × ((List Int) × ((List Int) × ((List Int) × (List (List Int)))))) × (Int × ((List (List Int)) × (List (List Int))))) × Unit))) => (table.length - s.1.2.1).toNat) ?_ ⟨by simp, by simp, fun b c b0 b1 => by simp at b1; omega⟩
  rintro ⟨⟨v1, b, v2⟩, m1, v3⟩ next1 ⟨b0, b1, hQ⟩ hn1
  intros
  try dsimp only at b0 b1 hQ hn1 ⊢
  refine cnd_d (fun hb => ?_) (fun hb => ?_)
  ·refine loop_of (fun (s : ((Unit × (Int × Unit)) × (((Int × ((List Int) × ((List Int) × ((List Int) × (List (List Int)))))) × (Int × ((List (List Int)) × (List (List Int))))) × Unit))) => 0 <= s.1.2.1 /\ s.1.2.1 <= table.length /\ ∀ c : Int, 0 <= c -> c < s.1.2.1 -> OrdP relation table a b c) (fun (s : ((Unit × (Int × Unit)) × (((Int × ((List Int) × ((List Int) × ((List Int) × (List (List Int)))))) × (Int × ((List (List Int)) × (List (List Int))))) × Unit))) => (table.length - s.1.2.1).toNat) ?_ ⟨by simp, by simp, fun c c0 c1 => by simp at c1; omega⟩
   rintro ⟨⟨w1, c, w2⟩, m2, w3⟩ next2 ⟨c0, c1, hS⟩ hn2
   intros
   try dsimp only at c0 c1 hS hn2 ⊢
   refine cnd_d (fun hd => ?_) (fun hd => ?_)
   ·have t1 := hT a c a0 ha c0 hd
    have t2 := hT b c b0 hb c0 hd
    have t3 := hT c a c0 hd a0 ha
    have t4 := hT c b c0 hd b0 hb
    have l1 := hTl a a0 ha
    have l2 := hTl b b0 hb
    have l3 := hTl c c0 hd
    have l4 := hRl a a0 ha
    have l5 := hRl _ t1.1 t1.2
    have l6 := hRl _ t3.1 t3.2
    refine ⟨a0, by omega, b0, by omega, fun _ => ⟨ha, a0⟩, fun _ => ⟨by omega, c0⟩, fun _ => ⟨by omega, t1.1⟩, fun _ => ⟨hb, b0⟩, fun _ => ⟨by omega, c0⟩, fun _ => ⟨by omega, t2.1⟩, fun _ => ⟨hd, c0⟩, fun _ => ⟨by omega, a0⟩, fun _ => ⟨by omega, t3.1⟩, fun _ => ⟨hd, c0⟩, fun _ => ⟨by omega, b0⟩, fun _ => ⟨by omega, t4.1⟩, cnd_of (fun _ => fun h => by simp at h) (fun hx => ⟨by rw [inK64]; (try dsimp only); omega, hn2 _ ⟨by dsimp only; omega, by dsimp only; omega, fun c' c0' c1' => ?_⟩ (by first | omega | (dsimp only; omega))⟩)⟩
    try dsimp only at c1'
    by_cases e : c' = c
    ·rw [e]
     intro hr
     simp only [Bool.and_eq_false_iff, Bool.or_eq_false_iff, bne_eq_false_iff_eq, beq_eq_false_iff_ne] at hx
     rcases hx with hx | hx
     ·exact absurd hr hx
     ·exact hx
    ·exact hS c' c0' (by omega)
   ·exact ⟨by rw [inK64]; (try dsimp only); omega, hn1 _ ⟨by dsimp only; omega, by dsimp only; omega, fun b' c' b0' b1' c0' c1' => by
     try dsimp only at b1'
     by_cases e : b' = b
     ·rw [e]; exact hS c' c0' (by omega)
     ·exact hQ b' c' b0' (by omega) c0' c1'⟩ (by first | omega | (dsimp only; omega))⟩
  ·exact ⟨by rw [inK64]; (try dsimp only); omega, hn _ ⟨by dsimp only; omega, by dsimp only; omega, fun a' b' c' a0' a1' b0' b1' c0' c1' => by
    try dsimp only at a1'
    by_cases e : a' = a
    ·rw [e]; exact hQ b' c' b0' (by omega) c0' c1'
    ·exact hP a' b' c' a0' (by omega) b0' b1' c0' c1'⟩ (by first | omega | (dsimp only; omega))⟩
 have hP' : ∀ a b c : Int, 0 <= a -> a < table.length -> 0 <= b -> b < table.length -> 0 <= c -> c < table.length -> OrdP relation table a b c := fun x b c x0 x1 => hP x b c x0 (by omega)
 have pos := poset_p hrl hok.1
 generalize spec_l03Poset_r0R relation = p at pos
 refine ⟨hrl, cnd_of (fun _ => fun h => by simp at h) (fun hf => ?_)⟩
 simp only [Bool.not_eq_false', Bool.and_eq_true, decide_eq_true_eq] at hf
 have hft := pos.ft
 have hin : ∀ f : Int, 0 <= f -> f < p.2.1.length -> (0 <= p.2.1.getD f.toNat 0 /\ p.2.1.getD f.toNat 0 < table.length) /\ (0 <= p.2.2.1.getD f.toNat 0 /\ p.2.2.1.getD f.toNat 0 < table.length) /\ (relation.getD (p.2.1.getD f.toNat 0).toNat []).getD (p.2.2.1.getD f.toNat 0).toNat 0 = 1 := fun f f0 f1 => by
  have := pos.inn f f0 f1
  rw [hlen] at this; exact this
 have hpos : 1 <= p.2.1.length := by
  obtain ⟨f, f0, f1, _⟩ := pos.has 0 0 (by omega) (by omega) (by omega) (by omega) (hdiag 0 (by omega) (by omega))
  omega
 refine loop_of (fun (s : ((Unit × (Unit × (Int × Unit))) × (((Int × ((List Int) × ((List Int) × ((List Int) × (List (List Int)))))) × (Int × ((List (List Int)) × (List (List Int))))) × ((List (List Int)) × Unit)))) => 0 <= s.1.2.2.1 /\ s.1.2.2.1 <= p.2.1.length /\ (s.2.2.1.length : Int) = s.1.2.2.1 /\ ∀ r ∈ s.2.2.1, r.length = p.2.1.length) (fun (s : ((Unit × (Unit × (Int × Unit))) × (((Int × ((List Int) × ((List Int) × ((List Int) × (List (List Int)))))) × (Int × ((List (List Int)) × (List (List Int))))) × ((List (List Int)) × Unit)))) => (p.2.1.length - s.1.2.2.1).toNat) ?_ ⟨by simp, by simp, by simp, by simp⟩
 rintro ⟨⟨v1, v2, f, v3⟩, m1, arr, v4⟩ next1 ⟨f0, f1, g1, g2⟩ hn1
 intros
 try dsimp only at f0 f1 g1 g2 hn1 ⊢
 refine cnd_d (fun hfl => ?_) (fun hfl => ?_)
 ·refine loop_of (fun (s : ((Unit × (Unit × (Unit × (Int × Unit)))) × (((Int × ((List Int) × ((List Int) × ((List Int) × (List (List Int)))))) × (Int × ((List (List Int)) × (List (List Int))))) × ((List (List Int)) × ((List Int) × Unit))))) => 0 <= s.1.2.2.2.1 /\ s.1.2.2.2.1 <= p.2.1.length /\ s.2.2.1 = arr /\ (s.2.2.2.1.length : Int) = s.1.2.2.2.1) (fun (s : ((Unit × (Unit × (Unit × (Int × Unit)))) × (((Int × ((List Int) × ((List Int) × ((List Int) × (List (List Int)))))) × (Int × ((List (List Int)) × (List (List Int))))) × ((List (List Int)) × ((List Int) × Unit))))) => (p.2.1.length - s.1.2.2.2.1).toNat) ?_ ⟨by simp, by simp, rfl, by simp⟩
  rintro ⟨⟨w1, w2, w3, g, w4⟩, m2, arr2, row, w5⟩ next2 ⟨k0, k1, k2, k3⟩ hn2
  intros
  try dsimp only at k0 k1 k2 k3 hn2 ⊢
  subst k2
  refine cnd_d (fun hgl => ?_) (fun hgl => ?_)
  ·have qf := hin f f0 hfl
   have qg := hin g k0 hgl
   have l1 := hTl _ qf.1.1 qf.1.2
   have l2 := hTl _ qf.2.1.1 qf.2.1.2
   have x1 := hT _ _ qf.1.1 qf.1.2 qg.1.1 qg.1.2
   have x2 := hT _ _ qf.2.1.1 qf.2.1.2 qg.2.1.1 qg.2.1.2
   have x3 := hT _ _ qf.2.1.1 qf.2.1.2 qg.1.1 qg.1.2
   have r1 := (hP' _ _ _ qf.1.1 qf.1.2 qf.2.1.1 qf.2.1.2 qg.1.1 qg.1.2 qf.2.2).1
   have r2 := (hP' _ _ _ qg.1.1 qg.1.2 qg.2.1.1 qg.2.1.2 qf.2.1.1 qf.2.1.2 qg.2.2).2
   have r3 := htr _ _ _ x1.1 x1.2 x3.1 x3.2 x2.1 x2.2 r1 r2
   obtain ⟨h, h0, h1, h2, h3⟩ := pos.has _ _ x1.1 (by omega) x2.1 (by omega) r3
   have hmem : h ∈ homR p ((table.getD (p.2.1.getD f.toNat 0).toNat []).getD (p.2.1.getD g.toNat 0).toNat 0) ((table.getD (p.2.2.1.getD f.toNat 0).toNat []).getD (p.2.2.1.getD g.toNat 0).toNat 0) := by
    unfold homR; rw [sel_mem, Bool.and_eq_true, beq_iff_eq, beq_iff_eq]
    exact ⟨h0, h1, h2, h3⟩
   have hhl := List.length_pos_of_mem hmem
   refine ⟨f0, hfl, qf.1.1, qf.1.2, k0, hgl, qg.1.1, by omega, f0, by omega, qf.2.1.1, qf.2.1.2, k0, by omega, qg.2.1.1, by omega, by omega, hft, Int.le_refl _, by omega, ?_, by rw [inK64]; (try dsimp only); omega, hn2 _ ⟨by dsimp only; omega, by dsimp only; omega, rfl, ?_⟩ (by first | omega | (dsimp only; omega))⟩
   ·unfold room; rw [nb_eq]; simp only [List.length_cons, List.length_nil]; omega
   ·simp only [List.length_append, List.length_cons, List.length_nil]; omega
  ·refine ⟨?_, by rw [inK64]; (try dsimp only); omega, hn1 _ ⟨by dsimp only; omega, by dsimp only; omega, ?_, ?_⟩ (by first | omega | (dsimp only; omega))⟩
   ·unfold room; rw [nb_eq]; simp only [List.length_cons, List.length_nil]; omega
   ·simp only [List.length_append, List.length_cons, List.length_nil]; omega
   ·intro r hr
    rcases List.mem_append.1 hr with hr | hr
    ·exact g2 r hr
    ·simp only [List.mem_singleton] at hr; subst hr; omega
 ·refine ⟨htl.own, fun _ => ⟨h3, ?_, ?_⟩⟩
  ·show 1 <= arr.length
   omega
  ·show 1 <= (arr.getD 0 []).length
   have := g2 _ (getD_mem arr [] (i := 0) (by omega) (by omega))
   simp only [Int.toNat_zero] at this
   omega
theorem e_spec_OrderMonoidal (relation : List (List Int)) (table : List (List Int)) : ∃ q : MonoidalD × Int × Unit, allP (okL c1_spec_OrderMonoidal.args (relation, table, ())) -> allP (c1_spec_OrderMonoidal.pre (relation, table, ())) -> W_spec_OrderMonoidal relation table (fun r => r = q) /\ allP (okR c1_spec_OrderMonoidal.rt q) /\ Q_spec_OrderMonoidal relation table q.1 q.2.1 :=
 pick_by (f := 148) (Φ := ph_spec_OrderMonoidal) (good_cons ct_spec_l01Own2 (good_cons ct_spec_l02Fits (good_cons ct_spec_l02Hom (good_cons ct_spec_l03Poset (good_cons ct_spec_l03Preorder (good_cons ct_spec_l35Monoid good_nil)))))) tab_ok (by kernel_rfl) (fn := Try.f148) (c := bodyOf Try.f148) (by kernel_rfl) (by kernel_rfl) (by kernel_rfl) c1_spec_OrderMonoidal an_spec_OrderMonoidal (cutL [(26, 532), (28, 504), (13, 47)]) (by kernel_rfl) (by kernel_rfl) k_spec_OrderMonoidal (by decide) (by kernel_rfl) (fun x K => W_spec_OrderMonoidal x.1 x.2.1 K) w_spec_OrderMonoidal (fun x r => Q_spec_OrderMonoidal x.1 x.2.1 r.1 r.2.1) (fun x h1 h2 => m_spec_OrderMonoidal x.1 x.2.1 h1 h2) (relation, table, ())
def spec_OrderMonoidal_r0R (relation : List (List Int)) (table : List (List Int)) : MonoidalD := (e_spec_OrderMonoidal relation table).choose.1
def spec_OrderMonoidal_r1R (relation : List (List Int)) (table : List (List Int)) : Int := (e_spec_OrderMonoidal relation table).choose.2.1
theorem q_spec_OrderMonoidal (relation : List (List Int)) (table : List (List Int)) (hok : allP (okL c1_spec_OrderMonoidal.args (relation, table, ()))) (hpre : allP (c1_spec_OrderMonoidal.pre (relation, table, ()))) : allP (okR c1_spec_OrderMonoidal.rt (spec_OrderMonoidal_r0R relation table, spec_OrderMonoidal_r1R relation table, ())) /\ Q_spec_OrderMonoidal relation table (spec_OrderMonoidal_r0R relation table) (spec_OrderMonoidal_r1R relation table) := ((e_spec_OrderMonoidal relation table).choose_spec hok hpre).2
def c_spec_OrderMonoidal : Ct := ⟨[(.sl (.sl (.int .i64))), (.sl (.sl (.int .i64)))], [false, false], fun x => [TblR x.1, TblR x.2.1], [(true, (.p (.fz CategoryT) (.p (.fz (.int .i64)) (.p (.sl (.sl (.fz (.int .i64)))) (.sl (.sl (.fz (.int .i64)))))))), (false, (.fz (.int .i64)))], fun x => ((spec_OrderMonoidal_r0R x.1 x.2.1), (spec_OrderMonoidal_r1R x.1 x.2.1), ()), true, none⟩
theorem w2_spec_OrderMonoidal (x : denL c_spec_OrderMonoidal.args) (K : MonoidalD × Int × Unit -> Prop) : evF tab ph_spec_OrderMonoidal (cutL [(26, 532), (28, 504), (13, 47)]) Try.f148 (bodyOf Try.f148) an_spec_OrderMonoidal c_spec_OrderMonoidal x K = W_spec_OrderMonoidal x.1 x.2.1 K := by kernel_rfl
theorem ct_spec_OrderMonoidal : CtOk Try.prog 148 c_spec_OrderMonoidal :=
 ct_by (Φ := ph_spec_OrderMonoidal) (good_cons ct_spec_l01Own2 (good_cons ct_spec_l02Fits (good_cons ct_spec_l02Hom (good_cons ct_spec_l03Poset (good_cons ct_spec_l03Preorder (good_cons ct_spec_l35Monoid good_nil)))))) tab_ok (by kernel_rfl) (fn := Try.f148) (c := bodyOf Try.f148) (by kernel_rfl) (by kernel_rfl) (by kernel_rfl) c_spec_OrderMonoidal rfl an_spec_OrderMonoidal (cutL [(26, 532), (28, 504), (13, 47)]) (by kernel_rfl) (by kernel_rfl) k_spec_OrderMonoidal (by decide) (fun x K => W_spec_OrderMonoidal x.1 x.2.1 K) w2_spec_OrderMonoidal (fun x h1 h2 => ((e_spec_OrderMonoidal x.1 x.2.1).choose_spec h1 h2).1)
theorem order_p {r t : List (List Int)} (h : TblR r) (g : TblR t) (hk : (T.sl (.sl (.int .i64))).ok r) (gk : (T.sl (.sl (.int .i64))).ok t) : spec_OrderMonoidal_r1R r t = 0 -> MgR (spec_OrderMonoidal_r0R r t) :=
 (q_spec_OrderMonoidal r t ⟨hk, gk, trivial⟩ ⟨h, g, trivial⟩).2
end
end Go.Bm
