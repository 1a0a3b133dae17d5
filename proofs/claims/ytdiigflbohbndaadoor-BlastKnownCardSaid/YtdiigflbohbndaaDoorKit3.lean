/- Rocks of one stone; a new ring; small pure functions of the kit and of the law's own package. -/
import Derived.Test.YtdiigflbohbndaaDoorKit2
namespace Go.Proofs.YtdiigflbohbndaaDoor
open Go.RowKit

set_option maxHeartbeats 400000 in
theorem sole_any (n : Int) (w : World) :
    Calls Tryd.prog 100 #[.int .i64 n] w fun e w' => e = .returned (.agg #[.int .i64 n, .int .i64 n]) ∧ Kp w.heap.size none w w' := by
  go_enter Tryd.func100, Tryd.ntmps100
  go_wp2
  exact bodyPost_ret (v := .agg #[.int .i64 n, .int .i64 n]) (by simp [results, Tryd.results100, go_sem]) rfl ⟨rfl, (Kp.refl _ _ w).alloc (Nat.le_refl _) _⟩

set_option maxHeartbeats 400000 in
theorem of_any (a b : Int) (w : World) :
    Calls Tryd.prog 58 #[.int .i64 a, .int .i64 b] w fun e w' => e = .returned (.agg #[.int .i64 a, .int .i64 b]) ∧ Kp w.heap.size none w w' := by
  go_enter Tryd.func58, Tryd.ntmps58
  go_wp2
  exact bodyPost_ret (v := .agg #[.int .i64 a, .int .i64 b]) (by simp [results, Tryd.results58, go_sem]) rfl ⟨rfl, (Kp.refl _ _ w).alloc (Nat.le_refl _) _⟩

def soleRock (s : Stone) : Rock := ⟨⟨s.size, s.size⟩, ⟨s.dens, s.dens⟩, ⟨s.strong, s.strong⟩, ⟨s.spin, s.spin⟩, ⟨s.shape, s.shape⟩, s.pile⟩
def soleFall (s : Stone) : Fall := ⟨⟨s.speed, s.speed⟩, ⟨s.slope, s.slope⟩⟩

set_option maxHeartbeats 1000000 in
theorem soleRock_any (s : Stone) (w : World) :
    Calls Tryd.prog 57 #[.agg #[.int .i64 s.size, .int .i64 s.dens, .int .i64 s.strong, .int .i64 s.spin, .int .i64 s.shape, .bool s.pile, .int .i64 s.speed, .int .i64 s.slope]] w
      fun e w' => e = .returned (.tuple #[.agg #[.int .i64 (soleRock s).size.lo, .int .i64 (soleRock s).size.hi, .int .i64 (soleRock s).dens.lo, .int .i64 (soleRock s).dens.hi, .int .i64 (soleRock s).strong.lo, .int .i64 (soleRock s).strong.hi, .int .i64 (soleRock s).spin.lo, .int .i64 (soleRock s).spin.hi, .int .i64 (soleRock s).shape.lo, .int .i64 (soleRock s).shape.hi, .bool (soleRock s).pile], .agg #[.int .i64 (soleFall s).speed.lo, .int .i64 (soleFall s).speed.hi, .int .i64 (soleFall s).slope.lo, .int .i64 (soleFall s).slope.hi]]) ∧ Kp w.heap.size none w w' := by
  have ha := ((Blk.new w 36 #[.int .i64 s.size, .int .i64 s.dens, .int .i64 s.strong, .int .i64 s.spin, .int .i64 s.shape, .bool s.pile, .int .i64 s.speed, .int .i64 s.slope]).alloc (.cells #[.int .i64 0, .int .i64 0, .int .i64 0, .int .i64 0, .int .i64 0, .int .i64 0, .int .i64 0, .int .i64 0, .int .i64 0, .int .i64 0, .bool false] 28)).alloc (.cells #[.int .i64 0, .int .i64 0, .int .i64 0, .int .i64 0] 30)
  have hb := (Blk.newAt (w.alloc (.cells #[.int .i64 s.size, .int .i64 s.dens, .int .i64 s.strong, .int .i64 s.spin, .int .i64 s.shape, .bool s.pile, .int .i64 s.speed, .int .i64 s.slope] 36)) 28 #[.int .i64 0, .int .i64 0, .int .i64 0, .int .i64 0, .int .i64 0, .int .i64 0, .int .i64 0, .int .i64 0, .int .i64 0, .int .i64 0, .bool false] (n := w.heap.size + 1) (by simp)).alloc (.cells #[.int .i64 0, .int .i64 0, .int .i64 0, .int .i64 0] 30)
  have hc := Blk.newAt ((w.alloc (.cells #[.int .i64 s.size, .int .i64 s.dens, .int .i64 s.strong, .int .i64 s.spin, .int .i64 s.shape, .bool s.pile, .int .i64 s.speed, .int .i64 s.slope] 36)).alloc (.cells #[.int .i64 0, .int .i64 0, .int .i64 0, .int .i64 0, .int .i64 0, .int .i64 0, .int .i64 0, .int .i64 0, .int .i64 0, .int .i64 0, .bool false] 28)) 30 #[.int .i64 0, .int .i64 0, .int .i64 0, .int .i64 0] (n := w.heap.size + 1 + 1) (by simp)
  have K0 := (((Kp.refl w.heap.size none w).alloc (Nat.le_refl _) (.cells #[.int .i64 s.size, .int .i64 s.dens, .int .i64 s.strong, .int .i64 s.spin, .int .i64 s.shape, .bool s.pile, .int .i64 s.speed, .int .i64 s.slope] 36)).alloc (by simp) (.cells #[.int .i64 0, .int .i64 0, .int .i64 0, .int .i64 0, .int .i64 0, .int .i64 0, .int .i64 0, .int .i64 0, .int .i64 0, .int .i64 0, .bool false] 28)).alloc (by simp; omega) (.cells #[.int .i64 0, .int .i64 0, .int .i64 0, .int .i64 0] 30)
  go_enter Tryd.func57, Tryd.ntmps57
  go_wp2
  generalize ((w.alloc (.cells #[.int .i64 s.size, .int .i64 s.dens, .int .i64 s.strong, .int .i64 s.spin, .int .i64 s.shape, .bool s.pile, .int .i64 s.speed, .int .i64 s.slope] 36)).alloc (.cells #[.int .i64 0, .int .i64 0, .int .i64 0, .int .i64 0, .int .i64 0, .int .i64 0, .int .i64 0, .int .i64 0, .int .i64 0, .int .i64 0, .bool false] 28)).alloc (.cells #[.int .i64 0, .int .i64 0, .int .i64 0, .int .i64 0] 30) = w0 at *
  obtain ⟨S, hS⟩ : ∃ S : Nat → World → Prop, S = fun _ w' => Blk w' w.heap.size 36 #[.int .i64 s.size, .int .i64 s.dens, .int .i64 s.strong, .int .i64 s.spin, .int .i64 s.shape, .bool s.pile, .int .i64 s.speed, .int .i64 s.slope] := ⟨_, rfl⟩
  have hS0 : ∀ w', S 0 w' ↔ (Blk w' w.heap.size 36 #[.int .i64 s.size, .int .i64 s.dens, .int .i64 s.strong, .int .i64 s.spin, .int .i64 s.shape, .bool s.pile, .int .i64 s.speed, .int .i64 s.slope]) := fun w' => by rw [hS]
  clear hS
  have cx := fun (x : Ev (S 0)) i => ((hS0 _).1 x.h).cell i
  have ha0 := ha.drew
  have hb0 := hb.drew
  have hc0 := hc.drew
  replace K0 := K0.drew
  have hevT := ev_true
  refine wp_region_ord S [(0, 0), (1, 1), (3, 0), (4, 1), (6, 0), (7, 1), (9, 0), (10, 1), (12, 0), (13, 1), (15, 0), (16, 1), (18, 0), (19, 1), (21, 0), (22, 1), (2, 2), (5, 2), (8, 2), (11, 2), (14, 2), (17, 0), (20, 2), (23, 2), (24, 0), (25, 2), (26, 2)] [] (by kernel_rfl) (by kernel_rfl) ((hS0 _).2 ha) ?_
  intro _hev
  iterate 16 (first | (refine wpOrd_v rfl rfl ?_; intro K hK; go_big_quiet_op; go_big_quiet_on) | (refine wpOrd_q rfl rfl ?_; intro K hK; go_big_quiet_op; go_big_quiet_on) | refine wpOrd_s (by decide) rfl rfl ?_)
  refine wpOrd_l rfl rfl ?_; intro K hK
  go_step
  refine (sole_any _ _).mono ?_
  rintro e w1 ⟨rfl, hk1⟩
  have ha1 := ha0.kpN hk1
  have hb1 := hb0.kpN hk1
  have hc1 := hc0.kpN hk1
  have K1 := K0.then_ hk1 (by simp)
  refine hK _ _ ((hS0 _).2 ha1) ?_
  clear hK K hk1 ha0 hb0 hc0 K0
  refine wpOrd_l rfl rfl ?_; intro K hK
  go_step
  refine (sole_any _ _).mono ?_
  rintro e w2 ⟨rfl, hk2⟩
  have ha2 := ha1.kpN hk2
  have hb2 := hb1.kpN hk2
  have hc2 := hc1.kpN hk2
  have K2 := K1.then_ hk2 (by simp)
  refine hK _ _ ((hS0 _).2 ha2) ?_
  clear hK K hk2 ha1 hb1 hc1 K1
  refine wpOrd_l rfl rfl ?_; intro K hK
  go_step
  refine (sole_any _ _).mono ?_
  rintro e w3 ⟨rfl, hk3⟩
  have ha3 := ha2.kpN hk3
  have hb3 := hb2.kpN hk3
  have hc3 := hc2.kpN hk3
  have K3 := K2.then_ hk3 (by simp)
  refine hK _ _ ((hS0 _).2 ha3) ?_
  clear hK K hk3 ha2 hb2 hc2 K2
  refine wpOrd_l rfl rfl ?_; intro K hK
  go_step
  refine (sole_any _ _).mono ?_
  rintro e w4 ⟨rfl, hk4⟩
  have ha4 := ha3.kpN hk4
  have hb4 := hb3.kpN hk4
  have hc4 := hc3.kpN hk4
  have K4 := K3.then_ hk4 (by simp)
  refine hK _ _ ((hS0 _).2 ha4) ?_
  clear hK K hk4 ha3 hb3 hc3 K3
  refine wpOrd_l rfl rfl ?_; intro K hK
  go_step
  refine (sole_any _ _).mono ?_
  rintro e w5 ⟨rfl, hk5⟩
  have ha5 := ha4.kpN hk5
  have hb5 := hb4.kpN hk5
  have hc5 := hc4.kpN hk5
  have K5 := K4.then_ hk5 (by simp)
  refine hK _ _ ((hS0 _).2 ha5) ?_
  clear hK K hk5 ha4 hb4 hc4 K4
  iterate 1 (first | (refine wpOrd_v rfl rfl ?_; intro K hK; go_big_quiet_op; go_big_quiet_on) | (refine wpOrd_q rfl rfl ?_; intro K hK; go_big_quiet_op; go_big_quiet_on) | refine wpOrd_s (by decide) rfl rfl ?_)
  refine wpOrd_l rfl rfl ?_; intro K hK
  go_step
  refine (sole_any _ _).mono ?_
  rintro e w6 ⟨rfl, hk6⟩
  have ha6 := ha5.kpN hk6
  have hb6 := hb5.kpN hk6
  have hc6 := hc5.kpN hk6
  have K6 := K5.then_ hk6 (by simp)
  refine hK _ _ ((hS0 _).2 ha6) ?_
  clear hK K hk6 ha5 hb5 hc5 K5
  refine wpOrd_l rfl rfl ?_; intro K hK
  go_step
  refine (sole_any _ _).mono ?_
  rintro e w7 ⟨rfl, hk7⟩
  have ha7 := ha6.kpN hk7
  have hb7 := hb6.kpN hk7
  have hc7 := hc6.kpN hk7
  have K7 := K6.then_ hk7 (by simp)
  refine hK _ _ ((hS0 _).2 ha7) ?_
  clear hK K hk7 ha6 hb6 hc6 K6
  iterate 1 (first | (refine wpOrd_v rfl rfl ?_; intro K hK; go_big_quiet_op; go_big_quiet_on) | (refine wpOrd_q rfl rfl ?_; intro K hK; go_big_quiet_op; go_big_quiet_on) | refine wpOrd_s (by decide) rfl rfl ?_)
  have c1 := fun i => hb7.cell i
  have f1 := fun i => hb7.frozen i
  have c2 := fun i => hc7.cell i
  have f2 := fun i => hc7.frozen i
  refine wpOrd_l rfl rfl ?_; intro K hK
  go_step
  refine hK _ _ ((hS0 _).2 ?_) ?_
  · iterate 11 refine Blk.far ?_ (show w.heap.size ≠ w.heap.size + 1 by omega) _
    exact ha7
  clear hK K
  refine wpOrd_l rfl rfl ?_; intro K hK
  go_step
  refine hK _ _ ((hS0 _).2 ?_) ?_
  · iterate 4 refine Blk.far ?_ (show w.heap.size ≠ w.heap.size + 1 + 1 by omega) _
    iterate 11 refine Blk.far ?_ (show w.heap.size ≠ w.heap.size + 1 by omega) _
    exact ha7
  clear hK K
  refine wpOrd_nil ?_
  clear hevT _hev
  go_wp2
  refine bodyPost_ret (v := .tuple #[.agg #[.int .i64 (soleRock s).size.lo, .int .i64 (soleRock s).size.hi, .int .i64 (soleRock s).dens.lo, .int .i64 (soleRock s).dens.hi, .int .i64 (soleRock s).strong.lo, .int .i64 (soleRock s).strong.hi, .int .i64 (soleRock s).spin.lo, .int .i64 (soleRock s).spin.hi, .int .i64 (soleRock s).shape.lo, .int .i64 (soleRock s).shape.hi, .bool (soleRock s).pile], .agg #[.int .i64 (soleFall s).speed.lo, .int .i64 (soleFall s).speed.hi, .int .i64 (soleFall s).slope.lo, .int .i64 (soleFall s).slope.hi]]) (by simp [results, Tryd.results57, go_sem, c1, c2, soleRock, soleFall]) rfl ⟨rfl, ?_⟩
  iterate 4 refine Kp.setNew ?_ (show w.heap.size ≤ w.heap.size + 1 + 1 by omega) _
  iterate 11 refine Kp.setNew ?_ (show w.heap.size ≤ w.heap.size + 1 by omega) _
  exact K7

set_option maxHeartbeats 400000 in
theorem newRing_any (A : Option Addr) (cap : Nat) (nums : List Int) (w : World) (h : Rd none w 1 (fun x => [Value.int .i64 x]) A nums.length nums) (hs : nums.length ≤ 17592186044416) :
    Calls Tryd.prog 16 #[.slice A nums.length cap] w fun e w' => ∃ g, e = .returned (.pointer (some ⟨g, 0, none⟩)) ∧ w.heap.size ≤ g ∧ RingAt w' g nums 0 ∧ Kp w.heap.size none w w' := by
  go_enter Tryd.func16, Tryd.ntmps16
  go_wp2
  go_ret
  refine ⟨w.heap.size, rfl, Nat.le_refl _, ⟨⟨A, cap, Blk.new w _ _, ?_, ?_⟩, hs⟩, (Kp.refl _ _ w).alloc (Nat.le_refl _) _⟩
  · refine ⟨rfl, fun hn => ?_⟩
    obtain ⟨b, o, e, hb, _, hc⟩ := h.2 hn
    exact ⟨b, o, e, by simp; omega, sne (by omega), fun i hi j v hv => (World.cell?_alloc_lt w _ _ hb).trans (hc i hi j v hv)⟩
  · intro hn ad e
    obtain ⟨b, o, e', hb, _, _⟩ := h.2 hn
    rw [e] at e'
    injection e' with e'
    rw [e']
    exact hb

theorem ret_bool {a b : Bool} (h : a = b) : Ending.returned (.bool a) = .returned (.bool b) := by rw [h]
theorem ret_int {k : IntKind} {a b : Int} (h : a = b) : Ending.returned (.int k a) = .returned (.int k b) := by rw [h]

set_option maxHeartbeats 400000 in
theorem insideSpan_any (a b : Span) (w : World) :
    Calls Tryd.prog 62 #[.agg #[.int .i64 a.lo, .int .i64 a.hi], .agg #[.int .i64 b.lo, .int .i64 b.hi]] w fun e w' => e = .returned (.bool (decide (a.lo ≤ a.hi) && decide (b.lo ≤ a.lo) && decide (a.hi ≤ b.hi))) ∧ Kp w.heap.size none w w' := by
  have K := ((Kp.refl w.heap.size none w).alloc (Nat.le_refl _) (.cells #[.int .i64 a.lo, .int .i64 a.hi] 26)).alloc (by simp) (.cells #[.int .i64 b.lo, .int .i64 b.hi] 26)
  go_enter Tryd.func62, Tryd.ntmps62
  go_wp2
  all_goals
    go_ret
    refine ⟨ret_bool ?_, K⟩
    rw [Bool.eq_iff_iff]
    simp
    try omega
end Go.Proofs.YtdiigflbohbndaaDoor
