/- What the kit makes of a ring: spans, rocks, stones. -/
import Derived.Test.YtdiigflbohbndaaDoorRing
namespace Go.Proofs.YtdiigflbohbndaaDoor
open Go.RowKit

structure Span where
  lo : Int
  hi : Int
structure Rock where
  size : Span
  dens : Span
  strong : Span
  spin : Span
  shape : Span
  pile : Bool
structure Fall where
  speed : Span
  slope : Span
structure Stone where
  size : Int
  dens : Int
  strong : Int
  spin : Int
  shape : Int
  pile : Bool
  speed : Int
  slope : Int
def Span.ok (s : Span) (lo hi : Int) : Prop := lo ≤ s.lo ∧ s.lo ≤ s.hi ∧ s.hi ≤ hi
def Span.has (s : Span) (n : Int) : Prop := s.lo ≤ n ∧ n ≤ s.hi
structure RockOk (k : Rock) (f : Fall) : Prop where
  size : k.size.ok 1 1000
  dens : k.dens.ok 1 9000
  strong : k.strong.ok 0 1099511627776
  spin : k.spin.ok 0 1000
  shape : k.shape.ok 500 2000
  speed : f.speed.ok 1 8000
  slope : f.slope.ok 1 1000
structure StoneIn (s : Stone) (k : Rock) (f : Fall) : Prop where
  size : k.size.has s.size
  dens : k.dens.has s.dens
  strong : k.strong.has s.strong
  spin : k.spin.has s.spin
  shape : k.shape.has s.shape
  pile : s.pile = k.pile
  speed : f.speed.has s.speed
  slope : f.slope.has s.slope

set_option maxHeartbeats 400000 in
theorem spanIn_any (g : Nat) (nums : List Int) (k : Nat) (lo hi wide : Int) (w : World) (h : RingAt w g nums k) (hk : k ≤ 900000) (h1 : -1099511627776 ≤ lo) (h2 : lo ≤ hi) (h3 : hi ≤ 1099511627776) (h4 : 0 ≤ wide) (h5 : wide ≤ 1099511627776) :
    Calls Tryd.prog 73 #[.pointer (some ⟨g, 0, none⟩), .int .i64 lo, .int .i64 hi, .int .i64 wide] w
      (RPost g nums (k + 2) w fun v => ∃ a b : Int, v = .agg #[.int .i64 a, .int .i64 b] ∧ lo ≤ a ∧ a ≤ b ∧ b ≤ hi) := by
  have hb0 := Blk.new w 26 #[.int .i64 0, .int .i64 0]
  have hne := h.ne (Nat.le_refl _)
  go_enter Tryd.func73, Tryd.ntmps73
  go_wp2_with fail
  refine (range_any g nums k _ _ _ (h.alloc _) (by omega) (by omega) (by omega) (by omega) (by omega)).mono ?_
  rintro e w1 ⟨v, rfl, ⟨a, rfl, ha1, ha2⟩, hr1, hk1⟩
  have hb1 := hb0.kp hk1 hb0.lt hne
  go_wp2_with fail
  refine (range_any g nums (k + 1) _ _ _ hr1 (by omega) (by omega) (by omega) (by omega) (by omega)).mono ?_
  rintro e w2 ⟨v, rfl, ⟨b, rfl, hb1', hb2'⟩, hr2, hk2⟩
  have hb2 := hb1.kp hk2 hb1.lt hne
  have c2 := fun i => hb2.cell i
  have f2 := fun i => hb2.frozen i
  have hg : g < w.heap.size := h.lt
  have K := ((((Kp.refl w.heap.size (some g) w).alloc (Nat.le_refl _) _).then_ hk1 (by simp)).then_ hk2 (by simp)) 
  go_wp2
  all_goals first
    | (have hm : hi ≤ a + b := by assumption
       exact bodyPost_ret (v := .agg #[.int .i64 a, .int .i64 hi]) (by simp [results, Tryd.results73, go_sem, c2]) rfl ⟨_, rfl, ⟨a, hi, rfl, ha1, ha2, Int.le_refl _⟩, (hr2.big hg _).big hg _, (K.setNew (Nat.le_refl _) _).setNew (Nat.le_refl _) _⟩)
    | (have hm : a + b < hi := by assumption
       exact bodyPost_ret (v := .agg #[.int .i64 a, .int .i64 (a + b)]) (by simp [results, Tryd.results73, go_sem, c2]) rfl ⟨_, rfl, ⟨a, a + b, rfl, ha1, by omega, by omega⟩, (hr2.big hg _).big hg _, (K.setNew (Nat.le_refl _) _).setNew (Nat.le_refl _) _⟩)


set_option maxHeartbeats 400000 in
theorem inside_any (g : Nat) (nums : List Int) (k : Nat) (lo hi : Int) (w : World) (h : RingAt w g nums k) (hk : k ≤ 900000) (h1 : -1099511627776 ≤ lo) (h2 : lo ≤ hi) (h3 : hi ≤ 1099511627776) :
    Calls Tryd.prog 74 #[.pointer (some ⟨g, 0, none⟩), .agg #[.int .i64 lo, .int .i64 hi]] w
      (RPost g nums (k + 2) w fun v => ∃ x : Int, v = .int .i64 x ∧ lo ≤ x ∧ x ≤ hi) := by
  have hb0 := Blk.new w 26 #[.int .i64 lo, .int .i64 hi]
  have hne := h.ne (Nat.le_refl _)
  go_enter Tryd.func74, Tryd.ntmps74
  go_wp2_with fail
  refine (next_any g nums k _ _ (h.alloc _) (by omega) (by omega) (by omega)).mono ?_
  rintro e w1 ⟨v, rfl, ⟨a, rfl, ha1, ha2⟩, hr1, hk1⟩
  have hb1 := hb0.kp hk1 hb0.lt hne
  go_wp2_with fail
  refine (next_any g nums (k + 1) _ _ hr1 (by omega) (by omega) (by omega)).mono ?_
  rintro e w2 ⟨v, rfl, ⟨b, rfl, hb1', hb2'⟩, hr2, hk2⟩
  have hb2 := hb1.kp hk2 hb1.lt hne
  have c2 := fun i => hb2.cell i
  have K := ((((Kp.refl w.heap.size (some g) w).alloc (Nat.le_refl _) _).then_ hk1 (by simp)).then_ hk2 (by simp))
  have m1 := Int.emod_nonneg (a * 1048576 + b) (show hi - lo + 1 ≠ 0 by omega)
  have m2 := Int.emod_lt_of_pos (a * 1048576 + b) (show 0 < hi - lo + 1 by omega)
  go_wp2
  go_quiet (fail)
  go_wp2
  go_ret
  exact ⟨_, rfl, ⟨_, rfl, by omega, by omega⟩, hr2.drewN _, K.drewN _⟩


/-- a store of a struct's cells into a block of one's own, as the block then is -/
theorem Blk.set2 {w : World} {b : Nat} {t : TypeId} {x y : Value} (h : Blk w b t #[x, y]) (u v : Value) : Blk ((w.setCell ⟨b, 0, none⟩ u).setCell ⟨b, 1, none⟩ v) b t #[u, v] := (h.set_ 0 u).set_ 1 v


set_option maxHeartbeats 400000 in
theorem smaller_any (g : Nat) (nums : List Int) (k : Nat) (lo hi : Int) (w : World) (h : RingAt w g nums k) (hk : k ≤ 800000) (h1 : -1099511627776 ≤ lo) (h2 : lo ≤ hi) (h3 : hi ≤ 1099511627776) :
    Calls Tryd.prog 106 #[.pointer (some ⟨g, 0, none⟩), .agg #[.int .i64 lo, .int .i64 hi]] w
      (RPost g nums (k + 4) w fun v => ∃ a b : Int, v = .agg #[.int .i64 a, .int .i64 b] ∧ lo ≤ a ∧ a ≤ b ∧ b ≤ hi) := by
  have hb0 := (Blk.new w 26 #[.int .i64 lo, .int .i64 hi]).alloc (.cells #[.int .i64 0, .int .i64 0] 26)
  have hc0 := Blk.newAt (w.alloc (.cells #[.int .i64 lo, .int .i64 hi] 26)) 26 #[.int .i64 0, .int .i64 0] (n := w.heap.size + 1) (by simp)
  have hne := h.ne (Nat.le_refl _)
  have hne' := h.ne (Nat.le_succ w.heap.size)
  have hg := h.lt
  have K0 := (((Kp.refl w.heap.size (some g) w).alloc (Nat.le_refl _) (.cells #[.int .i64 lo, .int .i64 hi] 26)).alloc (by simp) (.cells #[.int .i64 0, .int .i64 0] 26)).drew
  obtain ⟨S, hS⟩ : ∃ S : Nat → World → Prop, S = fun _ w' => Blk w' w.heap.size 26 #[.int .i64 lo, .int .i64 hi] := ⟨_, rfl⟩
  have hS0 : ∀ w', S 0 w' ↔ (Blk w' w.heap.size 26 #[.int .i64 lo, .int .i64 hi]) := fun w' => by rw [hS]
  clear hS
  have cx := fun (x : Ev (S 0)) i => ((hS0 _).1 x.h).cell i
  go_enter Tryd.func106, Tryd.ntmps106
  go_wp2
  have hevT := ev_true
  refine wp_region_ord S [(0, 0), (1, 1), (3, 0), (4, 1), (2, 2), (5, 2), (6, 0), (7, 0)] [] (by kernel_rfl) (by kernel_rfl) ((hS0 _).2 hb0) ?_
  intro _hev
  iterate 4 (first | (refine wpOrd_v rfl rfl ?_; intro K hK; go_big_quiet_op; go_big_quiet_on) | (refine wpOrd_q rfl rfl ?_; intro K hK; go_big_quiet_op; go_big_quiet_on) | refine wpOrd_s (by decide) rfl rfl ?_)
  refine wpOrd_l rfl rfl ?_; intro K hK
  go_step
  refine (inside_any g nums k lo hi _ ((h.alloc _).alloc _).drew (by omega) (by omega) (by omega) (by omega)).mono ?_
  rintro e w1 ⟨v, rfl, ⟨a, rfl, ha1, ha2⟩, hr1, hk1⟩
  have hb1 := hb0.drew.kp hk1 hb0.lt hne
  have hc1 := hc0.drew.kp hk1 hc0.lt hne'
  refine hK _ _ ((hS0 _).2 hb1) ?_
  clear hK K
  refine wpOrd_l rfl rfl ?_; intro K hK
  go_step
  refine (inside_any g nums (k + 2) lo hi _ hr1 (by omega) (by omega) (by omega) (by omega)).mono ?_
  rintro e w2 ⟨v, rfl, ⟨b, rfl, hb1', hb2'⟩, hr2, hk2⟩
  have hb2 := hb1.kp hk2 hb1.lt hne
  have hc2 := hc1.kp hk2 hc1.lt hne'
  refine hK _ _ ((hS0 _).2 hb2) ?_
  clear hK K
  iterate 2 (first | (refine wpOrd_v rfl rfl ?_; intro K hK; go_big_quiet_op; go_big_quiet_on) | (refine wpOrd_q rfl rfl ?_; intro K hK; go_big_quiet_op; go_big_quiet_on) | refine wpOrd_s (by decide) rfl rfl ?_)
  refine wpOrd_nil ?_
  clear hevT _hev
  have c2 := fun i => hc2.cell i
  have f2 := fun i => hc2.frozen i
  have K1 := (K0.then_ hk1 (by simp)).then_ hk2 (by simp)
  rcases (show a < b ∨ a = b ∨ b < a by omega) with hm | rfl | hm
  · go_wp2
    exact bodyPost_ret (v := .agg #[.int .i64 a, .int .i64 b]) (by simp [results, Tryd.results106, go_sem, c2]) rfl ⟨_, rfl, ⟨a, b, rfl, by omega, by omega, by omega⟩, (hr2.big (by simp; omega) _).big (by simp; omega) _, (K1.setNew (by simp) _).setNew (by simp) _⟩
  · go_wp2
    exact bodyPost_ret (v := .agg #[.int .i64 a, .int .i64 a]) (by simp [results, Tryd.results106, go_sem, c2]) rfl ⟨_, rfl, ⟨a, a, rfl, by omega, by omega, by omega⟩, (hr2.big (by simp; omega) _).big (by simp; omega) _, (K1.setNew (by simp) _).setNew (by simp) _⟩
  · go_wp2
    exact bodyPost_ret (v := .agg #[.int .i64 b, .int .i64 a]) (by simp [results, Tryd.results106, go_sem, c2]) rfl ⟨_, rfl, ⟨b, a, rfl, by omega, by omega, by omega⟩, (hr2.big (by simp; omega) _).big (by simp; omega) _, (K1.setNew (by simp) _).setNew (by simp) _⟩

theorem pow_bd (x : Int) (h0 : 0 ≤ x) (h1 : x < 36) : ∃ s : Int, wrap64 (2 ^ x.toNat) = s ∧ 1 ≤ s ∧ s ≤ 34359738368 := by
  obtain ⟨n, rfl⟩ := Int.eq_ofNat_of_zero_le h0
  have h : ∀ n : Nat, n < 36 → 1 ≤ wrap64 ((2 : Int) ^ n) ∧ wrap64 ((2 : Int) ^ n) ≤ 34359738368 := by unfold wrap64; decide +kernel
  exact ⟨_, rfl, h n (by omega)⟩
theorem half_in (s : Int) (h0 : 1 ≤ s) (h1 : s ≤ 34359738368) : wrap64 (s.tdiv 2) = s / 2 := by
  rw [Int.tdiv_eq_ediv_of_nonneg (by omega)]
  exact IntWalk.wrap64_in _ (by omega)

set_option maxHeartbeats 1000000 in
theorem rockOf_any (g : Nat) (nums : List Int) (k : Nat) (w : World) (h : RingAt w g nums k) (hk : k ≤ 800000) :
    Calls Tryd.prog 17 #[.pointer (some ⟨g, 0, none⟩)] w
      (RPost g nums (k + 16) w fun v => ∃ (r : Rock) (f : Fall), v = .tuple #[.agg #[.int .i64 r.size.lo, .int .i64 r.size.hi, .int .i64 r.dens.lo, .int .i64 r.dens.hi, .int .i64 r.strong.lo, .int .i64 r.strong.hi, .int .i64 r.spin.lo, .int .i64 r.spin.hi, .int .i64 r.shape.lo, .int .i64 r.shape.hi, .bool r.pile], .agg #[.int .i64 f.speed.lo, .int .i64 f.speed.hi, .int .i64 f.slope.lo, .int .i64 f.slope.hi]] ∧ RockOk r f ∧ r.strong.hi ≤ 34359738368 ∧ f.speed.hi ≤ 5000) := by
  have ha := (Blk.new w 28 #[.int .i64 0, .int .i64 0, .int .i64 0, .int .i64 0, .int .i64 0, .int .i64 0, .int .i64 0, .int .i64 0, .int .i64 0, .int .i64 0, .bool false]).alloc (.cells #[.int .i64 0, .int .i64 0, .int .i64 0, .int .i64 0] 30)
  have hb := Blk.newAt (w.alloc (.cells #[.int .i64 0, .int .i64 0, .int .i64 0, .int .i64 0, .int .i64 0, .int .i64 0, .int .i64 0, .int .i64 0, .int .i64 0, .int .i64 0, .bool false] 28)) 30 #[.int .i64 0, .int .i64 0, .int .i64 0, .int .i64 0] (n := w.heap.size + 1) (by simp)
  have hne := h.ne (Nat.le_refl _)
  have hne' := h.ne (Nat.le_succ w.heap.size)
  have hg := h.lt
  have K0 := (((Kp.refl w.heap.size (some g) w).alloc (Nat.le_refl _) (.cells #[.int .i64 0, .int .i64 0, .int .i64 0, .int .i64 0, .int .i64 0, .int .i64 0, .int .i64 0, .int .i64 0, .int .i64 0, .int .i64 0, .bool false] 28)).alloc (by simp) (.cells #[.int .i64 0, .int .i64 0, .int .i64 0, .int .i64 0] 30))
  go_enter Tryd.func17, Tryd.ntmps17
  go_wp2_with fail
  refine (spanIn_any g nums k 1 120 20 _ ((h.alloc _).alloc _) (by omega) (by omega) (by omega) (by omega) (by omega) (by omega)).mono ?_
  rintro e w1 ⟨v, rfl, ⟨a1, b1, rfl, p1, q1, s1⟩, hr1, hk1⟩
  have ha1 := ha.kp hk1 ha.lt hne
  have hb1 := hb.kp hk1 hb.lt hne'
  have K1 := K0.then_ hk1 (by simp)
  clear hk1 K0 ha hb
  go_wp2_with fail
  refine (spanIn_any g nums _ 500 4000 800 _ hr1 (by omega) (by omega) (by omega) (by omega) (by omega) (by omega)).mono ?_
  rintro e w2 ⟨v, rfl, ⟨a2, b2, rfl, p2, q2, s2⟩, hr2, hk2⟩
  have ha2 := ha1.kp hk2 ha1.lt hne
  have hb2 := hb1.kp hk2 hb1.lt hne'
  have K2 := K1.then_ hk2 (by simp)
  clear hk2 K1 ha1 hb1 hr1
  go_wp2_with fail
  refine (spanIn_any g nums _ 0 1000 300 _ hr2 (by omega) (by omega) (by omega) (by omega) (by omega) (by omega)).mono ?_
  rintro e w3 ⟨v, rfl, ⟨a3, b3, rfl, p3, q3, s3⟩, hr3, hk3⟩
  have ha3 := ha2.kp hk3 ha2.lt hne
  have hb3 := hb2.kp hk3 hb2.lt hne'
  have K3 := K2.then_ hk3 (by simp)
  clear hk3 K2 ha2 hb2 hr2
  go_wp2_with fail
  refine (spanIn_any g nums _ 500 2000 600 _ hr3 (by omega) (by omega) (by omega) (by omega) (by omega) (by omega)).mono ?_
  rintro e w4 ⟨v, rfl, ⟨a4, b4, rfl, p4, q4, s4⟩, hr4, hk4⟩
  have ha4 := ha3.kp hk4 ha3.lt hne
  have hb4 := hb3.kp hk4 hb3.lt hne'
  have K4 := K3.then_ hk4 (by simp)
  clear hk4 K3 ha3 hb3 hr3
  go_wp2_with fail
  refine (next_any g nums _ 3 _ hr4 (by omega) (by omega) (by omega)).mono ?_
  rintro e w5 ⟨v, rfl, ⟨x5, rfl, p5, q5⟩, hr5, hk5⟩
  have ha5 := ha4.kp hk5 ha4.lt hne
  have hb5 := hb4.kp hk5 hb4.lt hne'
  have K5 := K4.then_ hk5 (by simp)
  clear hk5 K4 ha4 hb4 hr4
  have hg5 : g < w5.heap.size := hr5.lt
  have hn5 := hr5.ne (Nat.le_refl _)
  have hz5 : w.heap.size + 1 < w5.heap.size := hb5.lt
  go_wp2_with fail
  refine (next_any g nums _ 36 _ (hr5.alloc _) (by omega) (by omega) (by omega)).mono ?_
  rintro e w6 ⟨v, rfl, ⟨x6, rfl, p6, q6⟩, hr6, hk6⟩
  have ha6 := (ha5.alloc _).kp hk6 (ha5.alloc _).lt hne
  have hb6 := (hb5.alloc _).kp hk6 (hb5.alloc _).lt hne'
  have hc6 := (Blk.new w5 28 _).kp hk6 (by simp) hn5
  have K6 := (K5.alloc (by omega) _).then_ hk6 (by simp)
  clear hk6 K5 ha5 hb5 hr5
  go_wp2_with fail
  obtain ⟨s, hs, ps, qs⟩ := pow_bd x6 p6 q6
  rw [hs]
  clear hs
  rw [half_in s ps qs]
  go_wp2_with fail
  refine (spanIn_any g nums _ _ _ _ _ hr6 (by omega) (by omega) (by omega) (by omega) (by omega) (by omega)).mono ?_
  rintro e w7 ⟨v, rfl, ⟨a7, b7, rfl, p7, q7, s7⟩, hr7, hk7⟩
  have ha7 := ha6.kp hk7 ha6.lt hne
  have hb7 := hb6.kp hk7 hb6.lt hne'
  have hc7 := hc6.kp hk7 hc6.lt hn5
  have K7 := K6.then_ hk7 (by simp)
  clear hk7 K6 ha6 hb6 hc6 hr6
  have c7 := fun i => hc7.cell i
  have f7 := fun i => hc7.frozen i
  have hc8 : Blk ((w7.setCell ⟨w5.heap.size, 4, none⟩ (.int .i64 a7)).setCell ⟨w5.heap.size, 5, none⟩ (.int .i64 b7)) w5.heap.size 28
    #[.int .i64 a1, .int .i64 b1, .int .i64 a2, .int .i64 b2, .int .i64 a7, .int .i64 b7, .int .i64 a3, .int .i64 b3, .int .i64 a4, .int .i64 b4, .bool (x5 == 0)] := (hc7.set_ 4 _).set_ 5 _
  have ha8 := (ha7.far (p := ⟨w5.heap.size, 4, none⟩) (show w.heap.size ≠ w5.heap.size by omega) (.int .i64 a7)).far (p := ⟨w5.heap.size, 5, none⟩) (show w.heap.size ≠ w5.heap.size by omega) (.int .i64 b7)
  have hb8 := (hb7.far (p := ⟨w5.heap.size, 4, none⟩) (show w.heap.size + 1 ≠ w5.heap.size by omega) (.int .i64 a7)).far (p := ⟨w5.heap.size, 5, none⟩) (show w.heap.size + 1 ≠ w5.heap.size by omega) (.int .i64 b7)
  have hr8 := (hr7.big (p := ⟨w5.heap.size, 4, none⟩) (show g < w5.heap.size by omega) (.int .i64 a7)).big (p := ⟨w5.heap.size, 5, none⟩) (show g < w5.heap.size by omega) (.int .i64 b7)
  have K8 := (K7.setNew (p := ⟨w5.heap.size, 4, none⟩) (show w.heap.size ≤ w5.heap.size by omega) (.int .i64 a7)).setNew (p := ⟨w5.heap.size, 5, none⟩) (show w.heap.size ≤ w5.heap.size by omega) (.int .i64 b7)
  clear ha7 hb7 hr7 K7
  go_wp2
  clear c7 f7 hc7
  generalize (w7.setCell ⟨w5.heap.size, 4, none⟩ (.int .i64 a7)).setCell ⟨w5.heap.size, 5, none⟩ (.int .i64 b7) = w8 at *
  obtain ⟨S, hS⟩ : ∃ S : Nat → World → Prop, S = fun _ w' => Blk w' w5.heap.size 28 #[.int .i64 a1, .int .i64 b1, .int .i64 a2, .int .i64 b2, .int .i64 a7, .int .i64 b7, .int .i64 a3, .int .i64 b3, .int .i64 a4, .int .i64 b4, .bool (x5 == 0)] := ⟨_, rfl⟩
  have hS0 : ∀ w', S 0 w' ↔ (Blk w' w5.heap.size 28 #[.int .i64 a1, .int .i64 b1, .int .i64 a2, .int .i64 b2, .int .i64 a7, .int .i64 b7, .int .i64 a3, .int .i64 b3, .int .i64 a4, .int .i64 b4, .bool (x5 == 0)]) := fun w' => by rw [hS]
  clear hS
  have cx := fun (x : Ev (S 0)) i => ((hS0 _).1 x.h).cell i
  have hevT := ev_true
  refine wp_region_ord S [(0, 1), (1, 0), (3, 0), (2, 2), (4, 2), (5, 0), (6, 2), (7, 2)] [] (by kernel_rfl) (by kernel_rfl) ((hS0 _).2 hc8) ?_
  intro _hev
  iterate 3 (first | (refine wpOrd_v rfl rfl ?_; intro K hK; go_big_quiet_op; go_big_quiet_on) | (refine wpOrd_q rfl rfl ?_; intro K hK; go_big_quiet_op; go_big_quiet_on) | refine wpOrd_s (by decide) rfl rfl ?_)
  refine wpOrd_l rfl rfl ?_; intro K hK
  go_step
  refine (spanIn_any g nums _ _ _ _ _ hr8.drew (by omega) (by omega) (by omega) (by omega) (by omega) (by omega)).mono ?_
  rintro e w9 ⟨v, rfl, ⟨a9, b9, rfl, p9, q9, s9⟩, hr9, hk9⟩
  have ha9 := ha8.drew.kp hk9 ha8.lt hne
  have hb9 := hb8.drew.kp hk9 hb8.lt hne'
  have hc9 := hc8.drew.kp hk9 hc8.lt hn5
  have K9 := K8.drew.then_ hk9 (by simp)
  refine hK _ _ ((hS0 _).2 hc9) ?_
  clear hK K hk9 ha8 hb8 hc8 K8
  refine wpOrd_l rfl rfl ?_; intro K hK
  go_step
  refine (spanIn_any g nums _ _ _ _ _ hr9 (by omega) (by omega) (by omega) (by omega) (by omega) (by omega)).mono ?_
  rintro e wA ⟨v, rfl, ⟨aA, bA, rfl, pA, qA, sA⟩, hrA, hkA⟩
  have haA := ha9.kp hkA ha9.lt hne
  have hbA := hb9.kp hkA hb9.lt hne'
  have hcA := hc9.kp hkA hc9.lt hn5
  have KA := K9.then_ hkA (by simp)
  have cA := fun i => haA.cell i
  have fA := fun i => haA.frozen i
  have cB := fun i => hbA.cell i
  have fB := fun i => hbA.frozen i
  refine hK _ _ ((hS0 _).2 hcA) ?_
  clear hK K hkA ha9 hb9 hc9 K9
  iterate 1 (first | (refine wpOrd_v rfl rfl ?_; intro K hK; go_big_quiet_op; go_big_quiet_on) | (refine wpOrd_q rfl rfl ?_; intro K hK; go_big_quiet_op; go_big_quiet_on) | refine wpOrd_s (by decide) rfl rfl ?_)
  refine wpOrd_l rfl rfl ?_; intro K hK
  go_step
  refine hK _ _ ((hS0 _).2 ?_) ?_
  · iterate 11 refine Blk.far ?_ (show w5.heap.size ≠ w.heap.size by omega) _
    exact hcA
  clear hK K
  refine wpOrd_l rfl rfl ?_; intro K hK
  go_step
  refine hK _ _ ((hS0 _).2 ?_) ?_
  · iterate 4 refine Blk.far ?_ (show w5.heap.size ≠ w.heap.size + 1 by omega) _
    iterate 11 refine Blk.far ?_ (show w5.heap.size ≠ w.heap.size by omega) _
    exact hcA
  clear hK K
  refine wpOrd_nil ?_
  clear hevT _hev
  go_wp2
  refine bodyPost_ret (v := .tuple #[.agg #[.int .i64 a1, .int .i64 b1, .int .i64 a2, .int .i64 b2, .int .i64 a7, .int .i64 b7, .int .i64 a3, .int .i64 b3, .int .i64 a4, .int .i64 b4, .bool (x5 == 0)], .agg #[.int .i64 a9, .int .i64 b9, .int .i64 aA, .int .i64 bA]])
    (by simp [results, Tryd.results17, go_sem, cA, cB]) rfl ⟨_, rfl, ⟨⟨⟨a1, b1⟩, ⟨a2, b2⟩, ⟨a7, b7⟩, ⟨a3, b3⟩, ⟨a4, b4⟩, x5 == 0⟩, ⟨⟨a9, b9⟩, ⟨aA, bA⟩⟩, rfl, ?_⟩, ?_, ?_⟩
  · refine ⟨?_, ?_, ?_⟩
    · constructor <;> (unfold Span.ok; simp only; omega)
    · show b7 ≤ 34359738368
      omega
    · show b9 ≤ 5000
      omega
  · iterate 4 refine RingAt.big ?_ (show g < w.heap.size + 1 by omega) _
    iterate 11 refine RingAt.big ?_ (show g < w.heap.size by omega) _
    exact hrA
  · iterate 4 refine Kp.setNew ?_ (show w.heap.size ≤ w.heap.size + 1 by omega) _
    iterate 11 refine Kp.setNew ?_ (show w.heap.size ≤ w.heap.size by omega) _
    exact KA
end Go.Proofs.YtdiigflbohbndaaDoor
