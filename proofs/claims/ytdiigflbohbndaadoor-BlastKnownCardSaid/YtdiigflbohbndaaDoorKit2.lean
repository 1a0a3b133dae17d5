/- Stones of a rock, rocks inside a rock, rocks of one stone. -/
import Derived.Test.YtdiigflbohbndaaDoorKit
namespace Go.Proofs.YtdiigflbohbndaaDoor
open Go.RowKit

set_option maxHeartbeats 1000000 in
theorem stoneOf_any (g : Nat) (nums : List Int) (k : Nat) (r : Rock) (f : Fall) (w : World) (h : RingAt w g nums k) (hk : k ≤ 800000) (hv : RockOk r f) :
    Calls Tryd.prog 19 #[.pointer (some ⟨g, 0, none⟩), .agg #[.int .i64 r.size.lo, .int .i64 r.size.hi, .int .i64 r.dens.lo, .int .i64 r.dens.hi, .int .i64 r.strong.lo, .int .i64 r.strong.hi, .int .i64 r.spin.lo, .int .i64 r.spin.hi, .int .i64 r.shape.lo, .int .i64 r.shape.hi, .bool r.pile], .agg #[.int .i64 f.speed.lo, .int .i64 f.speed.hi, .int .i64 f.slope.lo, .int .i64 f.slope.hi]] w
      (RPost g nums (k + 14) w fun v => ∃ s : Stone, v = .agg #[.int .i64 s.size, .int .i64 s.dens, .int .i64 s.strong, .int .i64 s.spin, .int .i64 s.shape, .bool s.pile, .int .i64 s.speed, .int .i64 s.slope] ∧ StoneIn s r f) := by
  obtain ⟨⟨r1, r2, r3⟩, ⟨d1, d2, d3⟩, ⟨t1, t2, t3⟩, ⟨n1, n2, n3⟩, ⟨h1, h2, h3⟩, ⟨v1, v2, v3⟩, ⟨l1, l2, l3⟩⟩ := hv
  have ha := ((Blk.new w 28 #[.int .i64 r.size.lo, .int .i64 r.size.hi, .int .i64 r.dens.lo, .int .i64 r.dens.hi, .int .i64 r.strong.lo, .int .i64 r.strong.hi, .int .i64 r.spin.lo, .int .i64 r.spin.hi, .int .i64 r.shape.lo, .int .i64 r.shape.hi, .bool r.pile]).alloc (.cells #[.int .i64 f.speed.lo, .int .i64 f.speed.hi, .int .i64 f.slope.lo, .int .i64 f.slope.hi] 30)).alloc (.cells #[.int .i64 0, .int .i64 0, .int .i64 0, .int .i64 0, .int .i64 0, .bool false, .int .i64 0, .int .i64 0] 36)
  have hb := (Blk.newAt (w.alloc (.cells #[.int .i64 r.size.lo, .int .i64 r.size.hi, .int .i64 r.dens.lo, .int .i64 r.dens.hi, .int .i64 r.strong.lo, .int .i64 r.strong.hi, .int .i64 r.spin.lo, .int .i64 r.spin.hi, .int .i64 r.shape.lo, .int .i64 r.shape.hi, .bool r.pile] 28)) 30 #[.int .i64 f.speed.lo, .int .i64 f.speed.hi, .int .i64 f.slope.lo, .int .i64 f.slope.hi] (n := w.heap.size + 1) (by simp)).alloc (.cells #[.int .i64 0, .int .i64 0, .int .i64 0, .int .i64 0, .int .i64 0, .bool false, .int .i64 0, .int .i64 0] 36)
  have hc := Blk.newAt ((w.alloc (.cells #[.int .i64 r.size.lo, .int .i64 r.size.hi, .int .i64 r.dens.lo, .int .i64 r.dens.hi, .int .i64 r.strong.lo, .int .i64 r.strong.hi, .int .i64 r.spin.lo, .int .i64 r.spin.hi, .int .i64 r.shape.lo, .int .i64 r.shape.hi, .bool r.pile] 28)).alloc (.cells #[.int .i64 f.speed.lo, .int .i64 f.speed.hi, .int .i64 f.slope.lo, .int .i64 f.slope.hi] 30)) 36 #[.int .i64 0, .int .i64 0, .int .i64 0, .int .i64 0, .int .i64 0, .bool false, .int .i64 0, .int .i64 0] (n := w.heap.size + 2) (by simp)
  have hr0 := (((h.alloc (.cells #[.int .i64 r.size.lo, .int .i64 r.size.hi, .int .i64 r.dens.lo, .int .i64 r.dens.hi, .int .i64 r.strong.lo, .int .i64 r.strong.hi, .int .i64 r.spin.lo, .int .i64 r.spin.hi, .int .i64 r.shape.lo, .int .i64 r.shape.hi, .bool r.pile] 28)).alloc (.cells #[.int .i64 f.speed.lo, .int .i64 f.speed.hi, .int .i64 f.slope.lo, .int .i64 f.slope.hi] 30)).alloc (.cells #[.int .i64 0, .int .i64 0, .int .i64 0, .int .i64 0, .int .i64 0, .bool false, .int .i64 0, .int .i64 0] 36))
  have hne := h.ne (Nat.le_refl _)
  have hne' := h.ne (Nat.le_succ w.heap.size)
  have hne2 := h.ne (Nat.le_add_right w.heap.size 2)
  have hg := h.lt
  have K0 := (((Kp.refl w.heap.size (some g) w).alloc (Nat.le_refl _) (.cells #[.int .i64 r.size.lo, .int .i64 r.size.hi, .int .i64 r.dens.lo, .int .i64 r.dens.hi, .int .i64 r.strong.lo, .int .i64 r.strong.hi, .int .i64 r.spin.lo, .int .i64 r.spin.hi, .int .i64 r.shape.lo, .int .i64 r.shape.hi, .bool r.pile] 28)).alloc (by simp) (.cells #[.int .i64 f.speed.lo, .int .i64 f.speed.hi, .int .i64 f.slope.lo, .int .i64 f.slope.hi] 30)).alloc (by simp; omega) (.cells #[.int .i64 0, .int .i64 0, .int .i64 0, .int .i64 0, .int .i64 0, .bool false, .int .i64 0, .int .i64 0] 36)
  go_enter Tryd.func19, Tryd.ntmps19
  go_wp2
  generalize ((w.alloc (.cells #[.int .i64 r.size.lo, .int .i64 r.size.hi, .int .i64 r.dens.lo, .int .i64 r.dens.hi, .int .i64 r.strong.lo, .int .i64 r.strong.hi, .int .i64 r.spin.lo, .int .i64 r.spin.hi, .int .i64 r.shape.lo, .int .i64 r.shape.hi, .bool r.pile] 28)).alloc (.cells #[.int .i64 f.speed.lo, .int .i64 f.speed.hi, .int .i64 f.slope.lo, .int .i64 f.slope.hi] 30)).alloc (.cells #[.int .i64 0, .int .i64 0, .int .i64 0, .int .i64 0, .int .i64 0, .bool false, .int .i64 0, .int .i64 0] 36) = w0 at *
  obtain ⟨S, hS⟩ : ∃ S : Nat → World → Prop, S = fun _ w' => Blk w' w.heap.size 28 #[.int .i64 r.size.lo, .int .i64 r.size.hi, .int .i64 r.dens.lo, .int .i64 r.dens.hi, .int .i64 r.strong.lo, .int .i64 r.strong.hi, .int .i64 r.spin.lo, .int .i64 r.spin.hi, .int .i64 r.shape.lo, .int .i64 r.shape.hi, .bool r.pile] ∧ Blk w' (w.heap.size + 1) 30 #[.int .i64 f.speed.lo, .int .i64 f.speed.hi, .int .i64 f.slope.lo, .int .i64 f.slope.hi] := ⟨_, rfl⟩
  have hS0 : ∀ w', S 0 w' ↔ (Blk w' w.heap.size 28 #[.int .i64 r.size.lo, .int .i64 r.size.hi, .int .i64 r.dens.lo, .int .i64 r.dens.hi, .int .i64 r.strong.lo, .int .i64 r.strong.hi, .int .i64 r.spin.lo, .int .i64 r.spin.hi, .int .i64 r.shape.lo, .int .i64 r.shape.hi, .bool r.pile] ∧ Blk w' (w.heap.size + 1) 30 #[.int .i64 f.speed.lo, .int .i64 f.speed.hi, .int .i64 f.slope.lo, .int .i64 f.slope.hi]) := fun w' => by rw [hS]
  clear hS
  have cx := fun (x : Ev (S 0)) i => ((hS0 _).1 x.h).1.cell i
  have cy := fun (x : Ev (S 0)) i => ((hS0 _).1 x.h).2.cell i
  have ha0 := ha.drew
  have hb0 := hb.drew
  have hc0 := hc.drew
  replace hr0 := hr0.drew
  replace K0 := K0.drew
  have hevT := ev_true
  refine wp_region_ord S [(0, 0), (1, 0), (2, 1), (4, 0), (5, 0), (6, 1), (8, 0), (9, 0), (10, 1), (12, 0), (13, 0), (14, 1), (16, 0), (17, 0), (18, 1), (20, 0), (21, 1), (22, 0), (23, 0), (24, 1), (26, 0), (27, 0), (28, 1), (3, 2), (7, 2), (11, 2), (15, 2), (19, 2), (25, 2), (29, 2), (30, 0), (31, 2)] [] (by kernel_rfl) (by kernel_rfl) ((hS0 _).2 ⟨ha, hb⟩) ?_
  intro _hev
  iterate 23 (first | (refine wpOrd_v rfl rfl ?_; intro K hK; go_big_quiet_op; go_big_quiet_on) | (refine wpOrd_q rfl rfl ?_; intro K hK; go_big_quiet_op; go_big_quiet_on) | refine wpOrd_s (by decide) rfl rfl ?_)
  refine wpOrd_l rfl rfl ?_; intro K hK
  go_step
  refine (inside_any g nums _ r.size.lo r.size.hi _ hr0 (by omega) (by omega) (by omega) (by omega)).mono ?_
  rintro e w1 ⟨v, rfl, ⟨x1, rfl, p1, q1⟩, hr1, hk1⟩
  have ha1 := ha0.kp hk1 ha0.lt hne
  have hb1 := hb0.kp hk1 hb0.lt hne'
  have hc1 := hc0.kp hk1 hc0.lt hne2
  have K1 := K0.then_ hk1 (by simp)
  refine hK _ _ ((hS0 _).2 ⟨ha1, hb1⟩) ?_
  clear hK K hk1 ha0 hb0 hc0
  refine wpOrd_l rfl rfl ?_; intro K hK
  go_step
  refine (inside_any g nums _ r.dens.lo r.dens.hi _ hr1 (by omega) (by omega) (by omega) (by omega)).mono ?_
  rintro e w2 ⟨v, rfl, ⟨x2, rfl, p2, q2⟩, hr2, hk2⟩
  have ha2 := ha1.kp hk2 ha1.lt hne
  have hb2 := hb1.kp hk2 hb1.lt hne'
  have hc2 := hc1.kp hk2 hc1.lt hne2
  have K2 := K1.then_ hk2 (by simp)
  refine hK _ _ ((hS0 _).2 ⟨ha2, hb2⟩) ?_
  clear hK K hk2 ha1 hb1 hc1
  refine wpOrd_l rfl rfl ?_; intro K hK
  go_step
  refine (inside_any g nums _ r.strong.lo r.strong.hi _ hr2 (by omega) (by omega) (by omega) (by omega)).mono ?_
  rintro e w3 ⟨v, rfl, ⟨x3, rfl, p3, q3⟩, hr3, hk3⟩
  have ha3 := ha2.kp hk3 ha2.lt hne
  have hb3 := hb2.kp hk3 hb2.lt hne'
  have hc3 := hc2.kp hk3 hc2.lt hne2
  have K3 := K2.then_ hk3 (by simp)
  refine hK _ _ ((hS0 _).2 ⟨ha3, hb3⟩) ?_
  clear hK K hk3 ha2 hb2 hc2
  refine wpOrd_l rfl rfl ?_; intro K hK
  go_step
  refine (inside_any g nums _ r.spin.lo r.spin.hi _ hr3 (by omega) (by omega) (by omega) (by omega)).mono ?_
  rintro e w4 ⟨v, rfl, ⟨x4, rfl, p4, q4⟩, hr4, hk4⟩
  have ha4 := ha3.kp hk4 ha3.lt hne
  have hb4 := hb3.kp hk4 hb3.lt hne'
  have hc4 := hc3.kp hk4 hc3.lt hne2
  have K4 := K3.then_ hk4 (by simp)
  refine hK _ _ ((hS0 _).2 ⟨ha4, hb4⟩) ?_
  clear hK K hk4 ha3 hb3 hc3
  refine wpOrd_l rfl rfl ?_; intro K hK
  go_step
  refine (inside_any g nums _ r.shape.lo r.shape.hi _ hr4 (by omega) (by omega) (by omega) (by omega)).mono ?_
  rintro e w5 ⟨v, rfl, ⟨x5, rfl, p5, q5⟩, hr5, hk5⟩
  have ha5 := ha4.kp hk5 ha4.lt hne
  have hb5 := hb4.kp hk5 hb4.lt hne'
  have hc5 := hc4.kp hk5 hc4.lt hne2
  have K5 := K4.then_ hk5 (by simp)
  refine hK _ _ ((hS0 _).2 ⟨ha5, hb5⟩) ?_
  clear hK K hk5 ha4 hb4 hc4
  refine wpOrd_l rfl rfl ?_; intro K hK
  go_step
  refine (inside_any g nums _ f.speed.lo f.speed.hi _ hr5 (by omega) (by omega) (by omega) (by omega)).mono ?_
  rintro e w6 ⟨v, rfl, ⟨x6, rfl, p6, q6⟩, hr6, hk6⟩
  have ha6 := ha5.kp hk6 ha5.lt hne
  have hb6 := hb5.kp hk6 hb5.lt hne'
  have hc6 := hc5.kp hk6 hc5.lt hne2
  have K6 := K5.then_ hk6 (by simp)
  refine hK _ _ ((hS0 _).2 ⟨ha6, hb6⟩) ?_
  clear hK K hk6 ha5 hb5 hc5
  refine wpOrd_l rfl rfl ?_; intro K hK
  go_step
  refine (inside_any g nums _ f.slope.lo f.slope.hi _ hr6 (by omega) (by omega) (by omega) (by omega)).mono ?_
  rintro e w7 ⟨v, rfl, ⟨x7, rfl, p7, q7⟩, hr7, hk7⟩
  have ha7 := ha6.kp hk7 ha6.lt hne
  have hb7 := hb6.kp hk7 hb6.lt hne'
  have hc7 := hc6.kp hk7 hc6.lt hne2
  have K7 := K6.then_ hk7 (by simp)
  refine hK _ _ ((hS0 _).2 ⟨ha7, hb7⟩) ?_
  clear hK K hk7 ha6 hb6 hc6
  iterate 1 (first | (refine wpOrd_v rfl rfl ?_; intro K hK; go_big_quiet_op; go_big_quiet_on) | (refine wpOrd_q rfl rfl ?_; intro K hK; go_big_quiet_op; go_big_quiet_on) | refine wpOrd_s (by decide) rfl rfl ?_)
  have cA := fun i => hc7.cell i
  have fA := fun i => hc7.frozen i
  refine wpOrd_l rfl rfl ?_; intro K hK
  go_step
  refine hK _ _ ((hS0 _).2 ?_) ?_
  · refine ⟨?_, ?_⟩
    · iterate 8 refine Blk.far ?_ (show w.heap.size ≠ w.heap.size + 2 by omega) _
      exact ha7
    · iterate 8 refine Blk.far ?_ (show w.heap.size + 1 ≠ w.heap.size + 2 by omega) _
      exact hb7
  clear hK K
  refine wpOrd_nil ?_
  clear hevT _hev
  go_wp2
  refine bodyPost_ret (v := .agg #[.int .i64 x1, .int .i64 x2, .int .i64 x3, .int .i64 x4, .int .i64 x5, .bool r.pile, .int .i64 x6, .int .i64 x7])
    (by simp [results, Tryd.results19, go_sem, cA]) rfl ⟨_, rfl, ⟨⟨x1, x2, x3, x4, x5, r.pile, x6, x7⟩, rfl, ?_⟩, ?_, ?_⟩
  · exact ⟨⟨p1, q1⟩, ⟨p2, q2⟩, ⟨p3, q3⟩, ⟨p4, q4⟩, ⟨p5, q5⟩, rfl, ⟨p6, q6⟩, ⟨p7, q7⟩⟩
  · iterate 8 refine RingAt.big ?_ (show g < w.heap.size + 2 by omega) _
    exact hr7
  · iterate 8 refine Kp.setNew ?_ (show w.heap.size ≤ w.heap.size + 2 by omega) _
    exact K7

def RockIn (a : Rock) (b : Rock) : Prop := (b.size.lo ≤ a.size.lo ∧ a.size.hi ≤ b.size.hi) ∧ (b.dens.lo ≤ a.dens.lo ∧ a.dens.hi ≤ b.dens.hi) ∧ (b.strong.lo ≤ a.strong.lo ∧ a.strong.hi ≤ b.strong.hi) ∧
  (b.spin.lo ≤ a.spin.lo ∧ a.spin.hi ≤ b.spin.hi) ∧ (b.shape.lo ≤ a.shape.lo ∧ a.shape.hi ≤ b.shape.hi) ∧ a.pile = b.pile
def FallIn (a b : Fall) : Prop := (b.speed.lo ≤ a.speed.lo ∧ a.speed.hi ≤ b.speed.hi) ∧ (b.slope.lo ≤ a.slope.lo ∧ a.slope.hi ≤ b.slope.hi)

set_option maxHeartbeats 1600000 in
theorem lessRock_any (g : Nat) (nums : List Int) (k : Nat) (r : Rock) (f : Fall) (w : World) (h : RingAt w g nums k) (hk : k ≤ 700000) (hv : RockOk r f) :
    Calls Tryd.prog 61 #[.pointer (some ⟨g, 0, none⟩), .agg #[.int .i64 r.size.lo, .int .i64 r.size.hi, .int .i64 r.dens.lo, .int .i64 r.dens.hi, .int .i64 r.strong.lo, .int .i64 r.strong.hi, .int .i64 r.spin.lo, .int .i64 r.spin.hi, .int .i64 r.shape.lo, .int .i64 r.shape.hi, .bool r.pile], .agg #[.int .i64 f.speed.lo, .int .i64 f.speed.hi, .int .i64 f.slope.lo, .int .i64 f.slope.hi]] w
      (RPost g nums (k + 28) w fun v => ∃ (r' : Rock) (f' : Fall), v = .tuple #[.agg #[.int .i64 r'.size.lo, .int .i64 r'.size.hi, .int .i64 r'.dens.lo, .int .i64 r'.dens.hi, .int .i64 r'.strong.lo, .int .i64 r'.strong.hi, .int .i64 r'.spin.lo, .int .i64 r'.spin.hi, .int .i64 r'.shape.lo, .int .i64 r'.shape.hi, .bool r'.pile], .agg #[.int .i64 f'.speed.lo, .int .i64 f'.speed.hi, .int .i64 f'.slope.lo, .int .i64 f'.slope.hi]] ∧ RockOk r' f' ∧ RockIn r' r ∧ FallIn f' f) := by
  obtain ⟨⟨r1, r2, r3⟩, ⟨d1, d2, d3⟩, ⟨t1, t2, t3⟩, ⟨n1, n2, n3⟩, ⟨h1, h2, h3⟩, ⟨v1, v2, v3⟩, ⟨l1, l2, l3⟩⟩ := hv
  have ha := ((Blk.new w 28 #[.int .i64 r.size.lo, .int .i64 r.size.hi, .int .i64 r.dens.lo, .int .i64 r.dens.hi, .int .i64 r.strong.lo, .int .i64 r.strong.hi, .int .i64 r.spin.lo, .int .i64 r.spin.hi, .int .i64 r.shape.lo, .int .i64 r.shape.hi, .bool r.pile]).alloc (.cells #[.int .i64 f.speed.lo, .int .i64 f.speed.hi, .int .i64 f.slope.lo, .int .i64 f.slope.hi] 30)).alloc (.cells #[.int .i64 0, .int .i64 0, .int .i64 0, .int .i64 0, .int .i64 0, .int .i64 0, .int .i64 0, .int .i64 0, .int .i64 0, .int .i64 0, .bool false] 28)
  replace ha := ha.alloc (.cells #[.int .i64 0, .int .i64 0, .int .i64 0, .int .i64 0] 30)
  have hb := (Blk.newAt (w.alloc (.cells #[.int .i64 r.size.lo, .int .i64 r.size.hi, .int .i64 r.dens.lo, .int .i64 r.dens.hi, .int .i64 r.strong.lo, .int .i64 r.strong.hi, .int .i64 r.spin.lo, .int .i64 r.spin.hi, .int .i64 r.shape.lo, .int .i64 r.shape.hi, .bool r.pile] 28)) 30 #[.int .i64 f.speed.lo, .int .i64 f.speed.hi, .int .i64 f.slope.lo, .int .i64 f.slope.hi] (n := w.heap.size + 1) (by simp)).alloc (.cells #[.int .i64 0, .int .i64 0, .int .i64 0, .int .i64 0, .int .i64 0, .int .i64 0, .int .i64 0, .int .i64 0, .int .i64 0, .int .i64 0, .bool false] 28)
  replace hb := hb.alloc (.cells #[.int .i64 0, .int .i64 0, .int .i64 0, .int .i64 0] 30)
  have hc := (Blk.newAt ((w.alloc (.cells #[.int .i64 r.size.lo, .int .i64 r.size.hi, .int .i64 r.dens.lo, .int .i64 r.dens.hi, .int .i64 r.strong.lo, .int .i64 r.strong.hi, .int .i64 r.spin.lo, .int .i64 r.spin.hi, .int .i64 r.shape.lo, .int .i64 r.shape.hi, .bool r.pile] 28)).alloc (.cells #[.int .i64 f.speed.lo, .int .i64 f.speed.hi, .int .i64 f.slope.lo, .int .i64 f.slope.hi] 30)) 28 #[.int .i64 0, .int .i64 0, .int .i64 0, .int .i64 0, .int .i64 0, .int .i64 0, .int .i64 0, .int .i64 0, .int .i64 0, .int .i64 0, .bool false] (n := w.heap.size + 1 + 1) (by simp)).alloc (.cells #[.int .i64 0, .int .i64 0, .int .i64 0, .int .i64 0] 30)
  have hd := Blk.newAt (((w.alloc (.cells #[.int .i64 r.size.lo, .int .i64 r.size.hi, .int .i64 r.dens.lo, .int .i64 r.dens.hi, .int .i64 r.strong.lo, .int .i64 r.strong.hi, .int .i64 r.spin.lo, .int .i64 r.spin.hi, .int .i64 r.shape.lo, .int .i64 r.shape.hi, .bool r.pile] 28)).alloc (.cells #[.int .i64 f.speed.lo, .int .i64 f.speed.hi, .int .i64 f.slope.lo, .int .i64 f.slope.hi] 30)).alloc (.cells #[.int .i64 0, .int .i64 0, .int .i64 0, .int .i64 0, .int .i64 0, .int .i64 0, .int .i64 0, .int .i64 0, .int .i64 0, .int .i64 0, .bool false] 28)) 30 #[.int .i64 0, .int .i64 0, .int .i64 0, .int .i64 0] (n := w.heap.size + 1 + 1 + 1) (by simp)
  have hr0 := (((h.alloc (.cells #[.int .i64 r.size.lo, .int .i64 r.size.hi, .int .i64 r.dens.lo, .int .i64 r.dens.hi, .int .i64 r.strong.lo, .int .i64 r.strong.hi, .int .i64 r.spin.lo, .int .i64 r.spin.hi, .int .i64 r.shape.lo, .int .i64 r.shape.hi, .bool r.pile] 28)).alloc (.cells #[.int .i64 f.speed.lo, .int .i64 f.speed.hi, .int .i64 f.slope.lo, .int .i64 f.slope.hi] 30)).alloc (.cells #[.int .i64 0, .int .i64 0, .int .i64 0, .int .i64 0, .int .i64 0, .int .i64 0, .int .i64 0, .int .i64 0, .int .i64 0, .int .i64 0, .bool false] 28)).alloc (.cells #[.int .i64 0, .int .i64 0, .int .i64 0, .int .i64 0] 30)
  have hne := h.ne (Nat.le_refl _)
  have hne' := h.ne (Nat.le_succ w.heap.size)
  have hne2 := h.ne (show w.heap.size ≤ w.heap.size + 1 + 1 by omega)
  have hne3 := h.ne (show w.heap.size ≤ w.heap.size + 1 + 1 + 1 by omega)
  have hg := h.lt
  have K0 := (((Kp.refl w.heap.size (some g) w).alloc (Nat.le_refl _) (.cells #[.int .i64 r.size.lo, .int .i64 r.size.hi, .int .i64 r.dens.lo, .int .i64 r.dens.hi, .int .i64 r.strong.lo, .int .i64 r.strong.hi, .int .i64 r.spin.lo, .int .i64 r.spin.hi, .int .i64 r.shape.lo, .int .i64 r.shape.hi, .bool r.pile] 28)).alloc (by simp) (.cells #[.int .i64 f.speed.lo, .int .i64 f.speed.hi, .int .i64 f.slope.lo, .int .i64 f.slope.hi] 30)).alloc (by simp; omega) (.cells #[.int .i64 0, .int .i64 0, .int .i64 0, .int .i64 0, .int .i64 0, .int .i64 0, .int .i64 0, .int .i64 0, .int .i64 0, .int .i64 0, .bool false] 28)
  replace K0 := K0.alloc (by simp; omega) (.cells #[.int .i64 0, .int .i64 0, .int .i64 0, .int .i64 0] 30)
  go_enter Tryd.func61, Tryd.ntmps61
  go_wp2
  generalize (((w.alloc (.cells #[.int .i64 r.size.lo, .int .i64 r.size.hi, .int .i64 r.dens.lo, .int .i64 r.dens.hi, .int .i64 r.strong.lo, .int .i64 r.strong.hi, .int .i64 r.spin.lo, .int .i64 r.spin.hi, .int .i64 r.shape.lo, .int .i64 r.shape.hi, .bool r.pile] 28)).alloc (.cells #[.int .i64 f.speed.lo, .int .i64 f.speed.hi, .int .i64 f.slope.lo, .int .i64 f.slope.hi] 30)).alloc (.cells #[.int .i64 0, .int .i64 0, .int .i64 0, .int .i64 0, .int .i64 0, .int .i64 0, .int .i64 0, .int .i64 0, .int .i64 0, .int .i64 0, .bool false] 28)).alloc (.cells #[.int .i64 0, .int .i64 0, .int .i64 0, .int .i64 0] 30) = w0 at *
  obtain ⟨S, hS⟩ : ∃ S : Nat → World → Prop, S = fun n w' => if n = 0 then Blk w' w.heap.size 28 #[.int .i64 r.size.lo, .int .i64 r.size.hi, .int .i64 r.dens.lo, .int .i64 r.dens.hi, .int .i64 r.strong.lo, .int .i64 r.strong.hi, .int .i64 r.spin.lo, .int .i64 r.spin.hi, .int .i64 r.shape.lo, .int .i64 r.shape.hi, .bool r.pile] else True := ⟨_, rfl⟩
  have hS0 : ∀ w', S 0 w' ↔ (Blk w' w.heap.size 28 #[.int .i64 r.size.lo, .int .i64 r.size.hi, .int .i64 r.dens.lo, .int .i64 r.dens.hi, .int .i64 r.strong.lo, .int .i64 r.strong.hi, .int .i64 r.spin.lo, .int .i64 r.spin.hi, .int .i64 r.shape.lo, .int .i64 r.shape.hi, .bool r.pile]) := fun w' => by rw [hS]; exact Iff.rfl
  have hS1 : ∀ w', S 1 w' ↔ (True) := fun w' => by rw [hS]; exact Iff.rfl
  clear hS
  have cx := fun (x : Ev (S 0)) i => ((hS0 _).1 x.h).cell i
  have ha0 := ha.drew
  have hb0 := hb.drew
  have hc0 := hc.drew
  have hd0 := hd.drew
  replace hr0 := hr0.drew
  replace K0 := K0.drew
  have hevT := ev_true
  refine wp_region_ord S [(0, 0), (1, 0), (2, 1), (4, 0), (5, 0), (6, 1), (8, 0), (9, 0), (10, 1), (12, 0), (13, 0), (14, 1), (16, 0), (17, 0), (18, 1), (3, 2), (20, 0), (7, 2), (11, 2), (15, 2), (19, 2), (21, 3), (22, 0), (23, 2), (24, 0), (25, 2), (26, 0), (27, 2), (28, 0), (29, 2)] [21] (by kernel_rfl) (by kernel_rfl) ((hS0 _).2 ha) ?_
  intro _hev
  iterate 15 (first | (refine wpOrd_v rfl rfl ?_; intro K hK; go_big_quiet_op; go_big_quiet_on) | (refine wpOrd_q rfl rfl ?_; intro K hK; go_big_quiet_op; go_big_quiet_on) | refine wpOrd_s (by decide) rfl rfl ?_)
  refine wpOrd_l rfl rfl ?_; intro K hK
  go_step
  refine (smaller_any g nums _ r.size.lo r.size.hi _ hr0 (by omega) (by omega) (by omega) (by omega)).mono ?_
  rintro e w1 ⟨v, rfl, ⟨x1, y1, rfl, p1, q1, s1⟩, hr1, hk1⟩
  have ha1 := ha0.kp hk1 ha0.lt hne
  have hb1 := hb0.kp hk1 hb0.lt hne'
  have hc1 := hc0.kp hk1 hc0.lt hne2
  have hd1 := hd0.kp hk1 hd0.lt hne3
  have K1 := K0.then_ hk1 (by simp)
  refine hK _ _ ((hS0 _).2 ha1) ?_
  clear hK K hk1 ha0 hb0 hc0 hd0 hr0 K0
  iterate 1 (first | (refine wpOrd_v rfl rfl ?_; intro K hK; go_big_quiet_op; go_big_quiet_on) | (refine wpOrd_q rfl rfl ?_; intro K hK; go_big_quiet_op; go_big_quiet_on) | refine wpOrd_s (by decide) rfl rfl ?_)
  refine wpOrd_l rfl rfl ?_; intro K hK
  go_step
  refine (smaller_any g nums _ r.dens.lo r.dens.hi _ hr1 (by omega) (by omega) (by omega) (by omega)).mono ?_
  rintro e w2 ⟨v, rfl, ⟨x2, y2, rfl, p2, q2, s2⟩, hr2, hk2⟩
  have ha2 := ha1.kp hk2 ha1.lt hne
  have hb2 := hb1.kp hk2 hb1.lt hne'
  have hc2 := hc1.kp hk2 hc1.lt hne2
  have hd2 := hd1.kp hk2 hd1.lt hne3
  have K2 := K1.then_ hk2 (by simp)
  refine hK _ _ ((hS0 _).2 ha2) ?_
  clear hK K hk2 ha1 hb1 hc1 hd1 hr1 K1
  refine wpOrd_l rfl rfl ?_; intro K hK
  go_step
  refine (smaller_any g nums _ r.strong.lo r.strong.hi _ hr2 (by omega) (by omega) (by omega) (by omega)).mono ?_
  rintro e w3 ⟨v, rfl, ⟨x3, y3, rfl, p3, q3, s3⟩, hr3, hk3⟩
  have ha3 := ha2.kp hk3 ha2.lt hne
  have hb3 := hb2.kp hk3 hb2.lt hne'
  have hc3 := hc2.kp hk3 hc2.lt hne2
  have hd3 := hd2.kp hk3 hd2.lt hne3
  have K3 := K2.then_ hk3 (by simp)
  refine hK _ _ ((hS0 _).2 ha3) ?_
  clear hK K hk3 ha2 hb2 hc2 hd2 hr2 K2
  refine wpOrd_l rfl rfl ?_; intro K hK
  go_step
  refine (smaller_any g nums _ r.spin.lo r.spin.hi _ hr3 (by omega) (by omega) (by omega) (by omega)).mono ?_
  rintro e w4 ⟨v, rfl, ⟨x4, y4, rfl, p4, q4, s4⟩, hr4, hk4⟩
  have ha4 := ha3.kp hk4 ha3.lt hne
  have hb4 := hb3.kp hk4 hb3.lt hne'
  have hc4 := hc3.kp hk4 hc3.lt hne2
  have hd4 := hd3.kp hk4 hd3.lt hne3
  have K4 := K3.then_ hk4 (by simp)
  refine hK _ _ ((hS0 _).2 ha4) ?_
  clear hK K hk4 ha3 hb3 hc3 hd3 hr3 K3
  refine wpOrd_l rfl rfl ?_; intro K hK
  go_step
  refine (smaller_any g nums _ r.shape.lo r.shape.hi _ hr4 (by omega) (by omega) (by omega) (by omega)).mono ?_
  rintro e w5 ⟨v, rfl, ⟨x5, y5, rfl, p5, q5, s5⟩, hr5, hk5⟩
  have ha5 := ha4.kp hk5 ha4.lt hne
  have hb5 := hb4.kp hk5 hb4.lt hne'
  have hc5 := hc4.kp hk5 hc4.lt hne2
  have hd5 := hd4.kp hk5 hd4.lt hne3
  have K5 := K4.then_ hk5 (by simp)
  refine hK _ _ ((hS0 _).2 ha5) ?_
  clear hK K hk5 ha4 hb4 hc4 hd4 hr4 K4
  have k5 := Kp.refl w5.heap.size (some w.heap.size) w5
  have c6 := fun i => ha5.cell i
  have f6 := fun i => ha5.frozen i
  refine wpOrd_a rfl rfl ?_; intro K hK
  go_step
  refine hK _ _ ((hS1 _).2 trivial) ?_
  clear hK K c6 f6
  have ha6 := (ha5.set_ 0 (.int .i64 x1)).set_ (0 + 1) (.int .i64 y1)
  simp only [List.setIfInBounds_toArray, List.set_cons_zero, List.set_cons_succ] at ha6
  have k6 := (k5.setRow (p := ⟨w.heap.size, 0, none⟩) rfl (.int .i64 x1)).setRow (p := ⟨w.heap.size, 0 + 1, none⟩) rfl (.int .i64 y1)
  clear ha5 k5
  change wpOrd _ _ _ _ _ 1 _ _
  iterate 1 (first | (refine wpOrd_v rfl rfl ?_; intro K hK; go_big_quiet_op; go_big_quiet_on) | (refine wpOrd_q rfl rfl ?_; intro K hK; go_big_quiet_op; go_big_quiet_on) | refine wpOrd_s (by decide) rfl rfl ?_)
  have c7 := fun i => ha6.cell i
  have f7 := fun i => ha6.frozen i
  refine wpOrd_l rfl rfl ?_; intro K hK
  go_step
  refine hK _ _ ((hS1 _).2 trivial) ?_
  clear hK K c7 f7
  have ha7 := (ha6.set_ 2 (.int .i64 x2)).set_ (2 + 1) (.int .i64 y2)
  simp only [List.setIfInBounds_toArray, List.set_cons_zero, List.set_cons_succ] at ha7
  have k7 := (k6.setRow (p := ⟨w.heap.size, 2, none⟩) rfl (.int .i64 x2)).setRow (p := ⟨w.heap.size, 2 + 1, none⟩) rfl (.int .i64 y2)
  clear ha6 k6
  iterate 1 (first | (refine wpOrd_v rfl rfl ?_; intro K hK; go_big_quiet_op; go_big_quiet_on) | (refine wpOrd_q rfl rfl ?_; intro K hK; go_big_quiet_op; go_big_quiet_on) | refine wpOrd_s (by decide) rfl rfl ?_)
  have c8 := fun i => ha7.cell i
  have f8 := fun i => ha7.frozen i
  refine wpOrd_l rfl rfl ?_; intro K hK
  go_step
  refine hK _ _ ((hS1 _).2 trivial) ?_
  clear hK K c8 f8
  have ha8 := (ha7.set_ 4 (.int .i64 x3)).set_ (4 + 1) (.int .i64 y3)
  simp only [List.setIfInBounds_toArray, List.set_cons_zero, List.set_cons_succ] at ha8
  have k8 := (k7.setRow (p := ⟨w.heap.size, 4, none⟩) rfl (.int .i64 x3)).setRow (p := ⟨w.heap.size, 4 + 1, none⟩) rfl (.int .i64 y3)
  clear ha7 k7
  iterate 1 (first | (refine wpOrd_v rfl rfl ?_; intro K hK; go_big_quiet_op; go_big_quiet_on) | (refine wpOrd_q rfl rfl ?_; intro K hK; go_big_quiet_op; go_big_quiet_on) | refine wpOrd_s (by decide) rfl rfl ?_)
  have c9 := fun i => ha8.cell i
  have f9 := fun i => ha8.frozen i
  refine wpOrd_l rfl rfl ?_; intro K hK
  go_step
  refine hK _ _ ((hS1 _).2 trivial) ?_
  clear hK K c9 f9
  have ha9 := (ha8.set_ 6 (.int .i64 x4)).set_ (6 + 1) (.int .i64 y4)
  simp only [List.setIfInBounds_toArray, List.set_cons_zero, List.set_cons_succ] at ha9
  have k9 := (k8.setRow (p := ⟨w.heap.size, 6, none⟩) rfl (.int .i64 x4)).setRow (p := ⟨w.heap.size, 6 + 1, none⟩) rfl (.int .i64 y4)
  clear ha8 k8
  iterate 1 (first | (refine wpOrd_v rfl rfl ?_; intro K hK; go_big_quiet_op; go_big_quiet_on) | (refine wpOrd_q rfl rfl ?_; intro K hK; go_big_quiet_op; go_big_quiet_on) | refine wpOrd_s (by decide) rfl rfl ?_)
  have c10 := fun i => ha9.cell i
  have f10 := fun i => ha9.frozen i
  refine wpOrd_l rfl rfl ?_; intro K hK
  go_step
  refine hK _ _ ((hS1 _).2 trivial) ?_
  clear hK K c10 f10
  have ha10 := (ha9.set_ 8 (.int .i64 x5)).set_ (8 + 1) (.int .i64 y5)
  simp only [List.setIfInBounds_toArray, List.set_cons_zero, List.set_cons_succ] at ha10
  have k10 := (k9.setRow (p := ⟨w.heap.size, 8, none⟩) rfl (.int .i64 x5)).setRow (p := ⟨w.heap.size, 8 + 1, none⟩) rfl (.int .i64 y5)
  clear ha9 k9
  refine wpOrd_nil ?_
  clear hevT _hev
  clear cx hS0 hS1 S
  have hbA := hb5.kp k10 hb5.lt (sne (by omega))
  have hcA := hc5.kp k10 hc5.lt (sne (by omega))
  have hdA := hd5.kp k10 hd5.lt (sne (by omega))
  have hrA := hr5.kpRow k10 hg
  have KA := K5.thenOwn k10 (Nat.le_refl _) (Nat.le_refl _)
  have haA := ha10
  clear ha10 k10 hb5 hc5 hd5 hr5 K5
  go_wp2
  obtain ⟨S, hS⟩ : ∃ S : Nat → World → Prop, S = fun n w' => if n = 0 then Blk w' (w.heap.size + 1) 30 #[.int .i64 f.speed.lo, .int .i64 f.speed.hi, .int .i64 f.slope.lo, .int .i64 f.slope.hi] else True := ⟨_, rfl⟩
  have hS0 : ∀ w', S 0 w' ↔ (Blk w' (w.heap.size + 1) 30 #[.int .i64 f.speed.lo, .int .i64 f.speed.hi, .int .i64 f.slope.lo, .int .i64 f.slope.hi]) := fun w' => by rw [hS]; exact Iff.rfl
  have hS1 : ∀ w', S 1 w' ↔ (True) := fun w' => by rw [hS]; exact Iff.rfl
  clear hS
  have cx := fun (x : Ev (S 0)) i => ((hS0 _).1 x.h).cell i
  replace haA := haA.drew
  replace hbA := hbA.drew
  replace hcA := hcA.drew
  replace hdA := hdA.drew
  replace hrA := hrA.drew
  replace KA := KA.drew
  have hevT := ev_true
  refine wp_region_ord S [(0, 0), (1, 0), (2, 1), (4, 0), (5, 0), (6, 1), (3, 2), (8, 0), (7, 2), (9, 3), (10, 0), (11, 2)] [9] (by kernel_rfl) (by kernel_rfl) ((hS0 _).2 hbA) ?_
  intro _hev
  iterate 6 (first | (refine wpOrd_v rfl rfl ?_; intro K hK; go_big_quiet_op; go_big_quiet_on) | (refine wpOrd_q rfl rfl ?_; intro K hK; go_big_quiet_op; go_big_quiet_on) | refine wpOrd_s (by decide) rfl rfl ?_)
  refine wpOrd_l rfl rfl ?_; intro K hK
  go_step
  refine (smaller_any g nums _ f.speed.lo f.speed.hi _ hrA (by omega) (by omega) (by omega) (by omega)).mono ?_
  rintro e wB ⟨v, rfl, ⟨xB, yB, rfl, pB, qB, sB⟩, hrB, hkB⟩
  have haB := haA.kp hkB haA.lt hne
  have hbB := hbA.kp hkB hbA.lt hne'
  have hcB := hcA.kp hkB hcA.lt hne2
  have hdB := hdA.kp hkB hdA.lt hne3
  have KB := KA.then_ hkB (by simp)
  refine hK _ _ ((hS0 _).2 hbB) ?_
  clear hK K hkB haA hbA hcA hdA hrA KA
  iterate 1 (first | (refine wpOrd_v rfl rfl ?_; intro K hK; go_big_quiet_op; go_big_quiet_on) | (refine wpOrd_q rfl rfl ?_; intro K hK; go_big_quiet_op; go_big_quiet_on) | refine wpOrd_s (by decide) rfl rfl ?_)
  refine wpOrd_l rfl rfl ?_; intro K hK
  go_step
  refine (smaller_any g nums _ f.slope.lo f.slope.hi _ hrB (by omega) (by omega) (by omega) (by omega)).mono ?_
  rintro e wC ⟨v, rfl, ⟨xC, yC, rfl, pC, qC, sC⟩, hrC, hkC⟩
  have haC := haB.kp hkC haB.lt hne
  have hbC := hbB.kp hkC hbB.lt hne'
  have hcC := hcB.kp hkC hcB.lt hne2
  have hdC := hdB.kp hkC hdB.lt hne3
  have KC := KB.then_ hkC (by simp)
  refine hK _ _ ((hS0 _).2 hbC) ?_
  clear hK K hkC haB hbB hcB hdB hrB KB
  have k5 := Kp.refl wC.heap.size (some (w.heap.size + 1)) wC
  have hb5 := hbC
  have c6 := fun i => hb5.cell i
  have f6 := fun i => hb5.frozen i
  refine wpOrd_a rfl rfl ?_; intro K hK
  go_step
  refine hK _ _ ((hS1 _).2 trivial) ?_
  clear hK K c6 f6
  have hb6 := (hb5.set_ 0 (.int .i64 xB)).set_ (0 + 1) (.int .i64 yB)
  simp only [List.setIfInBounds_toArray, List.set_cons_zero, List.set_cons_succ] at hb6
  have k6 := (k5.setRow (p := ⟨w.heap.size + 1, 0, none⟩) rfl (.int .i64 xB)).setRow (p := ⟨w.heap.size + 1, 0 + 1, none⟩) rfl (.int .i64 yB)
  clear hb5 k5
  change wpOrd _ _ _ _ _ 1 _ _
  iterate 1 (first | (refine wpOrd_v rfl rfl ?_; intro K hK; go_big_quiet_op; go_big_quiet_on) | (refine wpOrd_q rfl rfl ?_; intro K hK; go_big_quiet_op; go_big_quiet_on) | refine wpOrd_s (by decide) rfl rfl ?_)
  have c7 := fun i => hb6.cell i
  have f7 := fun i => hb6.frozen i
  refine wpOrd_l rfl rfl ?_; intro K hK
  go_step
  refine hK _ _ ((hS1 _).2 trivial) ?_
  clear hK K c7 f7
  have hb7 := (hb6.set_ 2 (.int .i64 xC)).set_ (2 + 1) (.int .i64 yC)
  simp only [List.setIfInBounds_toArray, List.set_cons_zero, List.set_cons_succ] at hb7
  have k7 := (k6.setRow (p := ⟨w.heap.size + 1, 2, none⟩) rfl (.int .i64 xC)).setRow (p := ⟨w.heap.size + 1, 2 + 1, none⟩) rfl (.int .i64 yC)
  clear hb6 k6
  refine wpOrd_nil ?_
  clear hevT _hev
  clear cx hS0 hS1 S
  have c1 := fun i => hcC.cell i
  have f1 := fun i => hcC.frozen i
  have c2 := fun i => hdC.cell i
  have f2 := fun i => hdC.frozen i
  have haD := haC.kp k7 haC.lt (sne (by omega))
  have hcD := hcC.kp k7 hcC.lt (sne (by omega))
  have hdD := hdC.kp k7 hdC.lt (sne (by omega))
  have hrD := hrC.kpRow k7 (by omega)
  have KD := KC.thenOwn k7 (Nat.le_refl _) (by omega)
  have hbD := hb7
  clear hb7 k7 haC hcC hdC hrC KC hbC
  go_wp2
  obtain ⟨S, hS⟩ : ∃ S : Nat → World → Prop, S = fun _ w' => Blk w' w.heap.size 28 #[.int .i64 x1, .int .i64 y1, .int .i64 x2, .int .i64 y2, .int .i64 x3, .int .i64 y3, .int .i64 x4, .int .i64 y4, .int .i64 x5, .int .i64 y5, .bool r.pile] ∧ Blk w' (w.heap.size + 1) 30 #[.int .i64 xB, .int .i64 yB, .int .i64 xC, .int .i64 yC] := ⟨_, rfl⟩
  have hS0 : ∀ w', S 0 w' ↔ (Blk w' w.heap.size 28 #[.int .i64 x1, .int .i64 y1, .int .i64 x2, .int .i64 y2, .int .i64 x3, .int .i64 y3, .int .i64 x4, .int .i64 y4, .int .i64 x5, .int .i64 y5, .bool r.pile] ∧ Blk w' (w.heap.size + 1) 30 #[.int .i64 xB, .int .i64 yB, .int .i64 xC, .int .i64 yC]) := fun w' => by rw [hS]
  clear hS
  have cx := fun (x : Ev (S 0)) i => ((hS0 _).1 x.h).1.cell i
  have cy := fun (x : Ev (S 0)) i => ((hS0 _).1 x.h).2.cell i
  have hevT := ev_true
  refine wp_region_ord S [(0, 1), (1, 1), (2, 2), (3, 2)] [] (by kernel_rfl) (by kernel_rfl) ((hS0 _).2 ⟨haD.drew, hbD.drew⟩) ?_
  intro _hev
  iterate 2 (first | (refine wpOrd_v rfl rfl ?_; intro K hK; go_big_quiet_op; go_big_quiet_on) | (refine wpOrd_q rfl rfl ?_; intro K hK; go_big_quiet_op; go_big_quiet_on) | refine wpOrd_s (by decide) rfl rfl ?_)
  refine wpOrd_l rfl rfl ?_; intro K hK
  go_step
  refine hK _ _ ((hS0 _).2 ⟨?_, ?_⟩) ?_
  · refine Blk.drew ?_
    iterate 11 refine Blk.far ?_ (show w.heap.size ≠ w.heap.size + 1 + 1 by omega) _
    exact haD
  · refine Blk.drew ?_
    iterate 11 refine Blk.far ?_ (show w.heap.size + 1 ≠ w.heap.size + 1 + 1 by omega) _
    exact hbD
  clear hK K
  refine wpOrd_l rfl rfl ?_; intro K hK
  go_step
  refine hK _ _ ((hS0 _).2 ⟨?_, ?_⟩) ?_
  · refine Blk.drew ?_
    iterate 4 refine Blk.far ?_ (show w.heap.size ≠ w.heap.size + 1 + 1 + 1 by omega) _
    iterate 11 refine Blk.far ?_ (show w.heap.size ≠ w.heap.size + 1 + 1 by omega) _
    exact haD
  · refine Blk.drew ?_
    iterate 4 refine Blk.far ?_ (show w.heap.size + 1 ≠ w.heap.size + 1 + 1 + 1 by omega) _
    iterate 11 refine Blk.far ?_ (show w.heap.size + 1 ≠ w.heap.size + 1 + 1 by omega) _
    exact hbD
  clear hK K
  refine wpOrd_nil ?_
  clear hevT _hev
  go_wp2
  refine bodyPost_ret (v := .tuple #[.agg #[.int .i64 x1, .int .i64 y1, .int .i64 x2, .int .i64 y2, .int .i64 x3, .int .i64 y3, .int .i64 x4, .int .i64 y4, .int .i64 x5, .int .i64 y5, .bool r.pile], .agg #[.int .i64 xB, .int .i64 yB, .int .i64 xC, .int .i64 yC]])
    (by simp [results, Tryd.results61, go_sem, c1, c2]) rfl ⟨_, rfl, ⟨⟨⟨x1, y1⟩, ⟨x2, y2⟩, ⟨x3, y3⟩, ⟨x4, y4⟩, ⟨x5, y5⟩, r.pile⟩, ⟨⟨xB, yB⟩, ⟨xC, yC⟩⟩, rfl, ?_, ?_, ?_⟩, ?_, ?_⟩
  · constructor <;> (unfold Span.ok; simp only; omega)
  · exact ⟨⟨p1, s1⟩, ⟨p2, s2⟩, ⟨p3, s3⟩, ⟨p4, s4⟩, ⟨p5, s5⟩, rfl⟩
  · exact ⟨⟨pB, sB⟩, ⟨pC, sC⟩⟩
  · refine RingAt.drew ?_
    iterate 4 refine RingAt.big ?_ (show g < w.heap.size + 1 + 1 + 1 by omega) _
    iterate 11 refine RingAt.big ?_ (show g < w.heap.size + 1 + 1 by omega) _
    exact hrD
  · refine Kp.drew ?_
    iterate 4 refine Kp.setNew ?_ (show w.heap.size ≤ w.heap.size + 1 + 1 + 1 by omega) _
    iterate 11 refine Kp.setNew ?_ (show w.heap.size ≤ w.heap.size + 1 + 1 by omega) _
    exact KD
end Go.Proofs.YtdiigflbohbndaaDoor
