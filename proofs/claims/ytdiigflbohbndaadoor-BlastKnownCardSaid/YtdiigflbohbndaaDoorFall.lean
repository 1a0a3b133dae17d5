/- How a stone falls: a step through a layer. -/
import Derived.Test.YtdiigflbohbndaaDoorAir
namespace Go.Proofs.YtdiigflbohbndaaDoor
open Go.RowKit

theorem span_MulDiv_int (a b c : Int) (ha : 0 ≤ a ∧ a ≤ 1152921504606846976) (hb : 0 ≤ b ∧ b ≤ 1152921504606846976) (hc : 1 ≤ c ∧ c ≤ 1152921504606846976) (hq : a * b / c < 1152921504606846976) (w : World) :
    Calls Tryd.prog 119 #[.int .i64 a, .int .i64 b, .int .i64 c] w fun e w' => (∃ u, e = .returned (.tuple #[.int .i64 (a * b / c), .int .i64 u, .int .i64 0])) ∧ Kp w.heap.size none w w' := by
  obtain ⟨a, rfl⟩ := Int.eq_ofNat_of_zero_le ha.1
  obtain ⟨b, rfl⟩ := Int.eq_ofNat_of_zero_le hb.1
  obtain ⟨c, rfl⟩ := Int.eq_ofNat_of_zero_le (show 0 ≤ c by omega)
  have e : (a : Int) * (b : Int) / (c : Int) = ((a * b / c : Nat) : Int) := by push_cast; rfl
  rw [e] at hq ⊢
  obtain ⟨H, L, q, r, u, hw⟩ := words_of a b c (by omega) (by omega) (by omega) (by omega) (by omega)
  have hqe := hw.qe
  refine (span_MulDiv_any a b c H L q r u (Lib.hid hw) (by omega) (by omega) (by omega) w).mono ?_
  rintro e w' ⟨rfl, k⟩
  exact ⟨⟨u, by rw [hqe]⟩, k⟩

theorem ref_MulDiv_int (a b c : Int) (ha : 0 ≤ a ∧ a ≤ 1152921504606846976) (hb : 0 ≤ b ∧ b ≤ 1152921504606846976) (hc : 1 ≤ c ∧ c ≤ 1152921504606846976) (hq : a * b / c < 1152921504606846976) (w : World) :
    Calls Tryd.prog 114 #[.int .i64 a, .int .i64 b, .int .i64 c] w fun e w' => (∃ u, e = .returned (.tuple #[.int .i64 (a * b / c), .int .i64 u, .int .i64 0])) ∧ Kp w.heap.size none w w' := by
  obtain ⟨a, rfl⟩ := Int.eq_ofNat_of_zero_le ha.1
  obtain ⟨b, rfl⟩ := Int.eq_ofNat_of_zero_le hb.1
  obtain ⟨c, rfl⟩ := Int.eq_ofNat_of_zero_le (show 0 ≤ c by omega)
  have e : (a : Int) * (b : Int) / (c : Int) = ((a * b / c : Nat) : Int) := by push_cast; rfl
  rw [e] at hq ⊢
  obtain ⟨H, L, q, r, u, hw⟩ := words_of a b c (by omega) (by omega) (by omega) (by omega) (by omega)
  have hqe := hw.qe
  refine (ref_MulDiv_any a b c H L q r u (Lib.hid hw) (by omega) (by omega) (by omega) w).mono ?_
  rintro e w' ⟨rfl, k⟩
  exact ⟨⟨u, by rw [hqe]⟩, k⟩

def burstsAt (d v held : Int) : Bool := decide (held ≤ d * v) && decide (0 < d * v)
def wayOf (thick slope : Int) : Int := (thick * 1000 + slope - 1) / slope
def lessOf (s : Stone) (x : Layer) (v : Int) : Int := x.dens * v * (wayOf x.thick s.slope * s.shape) / (s.dens * s.size * 1000)
def slowedOf (s : Stone) (x : Layer) (v : Int) : Int := max 0 (v - lessOf s x v)
def afterOf (s : Stone) (x : Layer) (v : Int) : Int := if burstsAt x.dens v (holdOf s.strong s.spin s.pile) then v else slowedOf s x v
def fallCells (s : Stone) (v : Int) : Array Value := #[.int .i64 s.size, .int .i64 s.dens, .int .i64 s.strong, .int .i64 s.spin, .int .i64 s.shape, .bool s.pile, .int .i64 s.speed, .int .i64 s.slope, .int .i64 v]

/-- All numbers of a step are small. -/
structure StepOk (s : Stone) (x : Layer) (v : Int) : Prop where
  p : 0 ≤ x.dens * v ∧ x.dens * v ≤ 64000000000
  t : 0 ≤ x.thick * 1000 + s.slope - 1 ∧ x.thick * 1000 + s.slope - 1 ≤ 1001000
  way : 0 ≤ wayOf x.thick s.slope ∧ wayOf x.thick s.slope ≤ 1001000
  ws : 0 ≤ wayOf x.thick s.slope * s.shape ∧ wayOf x.thick s.slope * s.shape ≤ 2002000000
  ds : 0 ≤ s.dens * s.size ∧ s.dens * s.size ≤ 9000000
  d1 : 1 ≤ s.dens * s.size
  less : 0 ≤ lessOf s x v ∧ lessOf s x v ≤ 128128000000000000
theorem step_ok {s : Stone} {x : Layer} {v : Int} (hs : StoneOk s) (hx : LayOk x) (hv : 0 ≤ v ∧ v ≤ 64000000) : StepOk s x v := by
  have p := mul_in hx.2.1 hx.2.2 hv.1 hv.2
  have hsl := hs.slope
  have ht := hx.1
  have t : 0 ≤ x.thick * 1000 + s.slope - 1 ∧ x.thick * 1000 + s.slope - 1 ≤ 1001000 := by omega
  have w0 : 0 ≤ wayOf x.thick s.slope := Int.ediv_nonneg t.1 (by omega)
  have w1 : wayOf x.thick s.slope ≤ 1001000 := Int.le_trans (Int.ediv_le_self _ t.1) t.2
  have hsh := hs.shape
  have ws := mul_in w0 w1 (show 0 ≤ s.shape by omega) hsh.2
  have hd := hs.dens
  have hz := hs.size
  have ds := mul_in (show 0 ≤ s.dens by omega) hd.2 (show 0 ≤ s.size by omega) hz.2
  have d1 : 1 ≤ s.dens * s.size := by
    have := Int.mul_le_mul hd.1 hz.1 (by omega) (by omega : 0 ≤ s.dens)
    omega
  have pw := mul_in p.1 (show x.dens * v ≤ 64000000000 by omega) ws.1 (show wayOf x.thick s.slope * s.shape ≤ 2002000000 by omega)
  refine ⟨⟨p.1, by omega⟩, t, ⟨w0, w1⟩, ⟨ws.1, by omega⟩, ⟨ds.1, by omega⟩, d1, ?_⟩
  unfold lessOf
  generalize x.dens * v * (wayOf x.thick s.slope * s.shape) = X at pw
  generalize s.dens * s.size = D at ds d1
  refine ⟨Int.ediv_nonneg pw.1 (by omega), ?_⟩
  have : X / (D * 1000) ≤ X / 1000 := by
    rw [show D * 1000 = 1000 * D from by omega, ← Int.ediv_ediv_of_nonneg (show (0:Int) ≤ 1000 by omega)]
    exact Int.ediv_le_self _ (Int.ediv_nonneg pw.1 (by omega))
  omega
theorem slowed_bd {s : Stone} {x : Layer} {v : Int} (k : StepOk s x v) (hv : 0 ≤ v ∧ v ≤ 64000000) : 0 ≤ slowedOf s x v ∧ slowedOf s x v ≤ 64000000 := by
  have := k.less
  unfold slowedOf
  omega

set_option maxHeartbeats 400000 in
theorem blast_drop_any (s : Stone) (hs : 1 ≤ s.speed ∧ s.speed ≤ 8000) (w : World) :
    Calls Tryd.prog 75 #[.agg #[.int .i64 s.size, .int .i64 s.dens, .int .i64 s.strong, .int .i64 s.spin, .int .i64 s.shape, .bool s.pile, .int .i64 s.speed, .int .i64 s.slope]] w fun e w' => ∃ g, e = .returned (.pointer (some ⟨g, 0, none⟩)) ∧ w.heap.size ≤ g ∧ Blk w' g 110 (fallCells s (s.speed * s.speed)) ∧ Kp w.heap.size none w w' := by
  have hp := mul_in (show 0 ≤ s.speed by omega) hs.2 (show 0 ≤ s.speed by omega) hs.2
  have hw := wrap64_of hp.1 (by omega)
  have K0 := ((Kp.refl w.heap.size none w).alloc (Nat.le_refl _) (.cells #[.int .i64 s.size, .int .i64 s.dens, .int .i64 s.strong, .int .i64 s.spin, .int .i64 s.shape, .bool s.pile, .int .i64 s.speed, .int .i64 s.slope] 36)).alloc (by simp) (.cells (fallCells s (s.speed * s.speed)) 110)
  have B0 := Blk.newAt (w.alloc (.cells #[.int .i64 s.size, .int .i64 s.dens, .int .i64 s.strong, .int .i64 s.spin, .int .i64 s.shape, .bool s.pile, .int .i64 s.speed, .int .i64 s.slope] 36)) 110 (fallCells s (s.speed * s.speed)) (n := w.heap.size + 1) (by simp)
  unfold fallCells at *
  generalize hq : s.speed * s.speed = q at *
  replace hq := Lib.hid hq
  replace hw := Lib.hid hw
  clear hp hs
  go_enter Tryd.func75, Tryd.ntmps75
  go_wp2
  rw [hq.out, hw.out]
  exact bodyPost_ret (by simp [results, Tryd.results75, go_sem]) rfl ⟨_, rfl, by omega, B0, K0⟩
set_option maxHeartbeats 400000 in
theorem blast_bursts_any (g : Nat) (s : Stone) (v : Int) (x : Layer) (held : Int) (w : World) (hb : Blk w g 110 (fallCells s v)) (hp : 0 ≤ x.dens * v ∧ x.dens * v ≤ 64000000000) :
    Calls Tryd.prog 109 #[.pointer (some ⟨g, 0, none⟩), .agg #[.int .i64 x.thick, .int .i64 x.dens], .int .i64 held] w fun e w' => e = .returned (.bool (burstsAt x.dens v held)) ∧ Kp w.heap.size none w w' := by
  have hw := Lib.hid (wrap64_of hp.1 (by omega))
  have K0 := (Kp.refl w.heap.size none w).alloc (Nat.le_refl _) (.cells #[.int .i64 x.thick, .int .i64 x.dens] 43)
  have B0 := Blk.new w 43 #[.int .i64 x.thick, .int .i64 x.dens]
  have F0 := hb.alloc (.cells #[.int .i64 x.thick, .int .i64 x.dens] 43)
  unfold burstsAt
  have cA := fun i => F0.cell i
  have cB := fun i => B0.cell i
  unfold fallCells at *
  clear hp hb
  go_enter Tryd.func109, Tryd.ntmps109
  go_wp2_with fail
  obtain ⟨S, hS⟩ : ∃ S : Nat → World → Prop, S = fun _ w' => Blk w' w.heap.size 43 #[.int .i64 x.thick, .int .i64 x.dens] ∧ Blk w' g 110 #[.int .i64 s.size, .int .i64 s.dens, .int .i64 s.strong, .int .i64 s.spin, .int .i64 s.shape, .bool s.pile, .int .i64 s.speed, .int .i64 s.slope, .int .i64 v] := ⟨_, rfl⟩
  have hS0 : ∀ w', S 0 w' ↔ (Blk w' w.heap.size 43 #[.int .i64 x.thick, .int .i64 x.dens] ∧ Blk w' g 110 #[.int .i64 s.size, .int .i64 s.dens, .int .i64 s.strong, .int .i64 s.spin, .int .i64 s.shape, .bool s.pile, .int .i64 s.speed, .int .i64 s.slope, .int .i64 v]) := fun w' => by rw [hS]
  clear hS
  have cx := fun (x : Ev (S 0)) i => ((hS0 _).1 x.h).1.cell i
  have cy := fun (x : Ev (S 0)) i => ((hS0 _).1 x.h).2.cell i
  clear cA cB
  have hevT := ev_true
  refine wp_region_ord S [(0, 0), (1, 1), (2, 0), (3, 0), (4, 0), (5, 1), (6, 0), (7, 0)] [] (by kernel_rfl) (by kernel_rfl) ((hS0 _).2 ⟨B0, F0⟩) ?_
  intro _hev
  iterate 8 (first | (refine wpOrd_v rfl rfl ?_; intro K hK; go_big_quiet_op; go_big_quiet_on) | (refine wpOrd_q rfl rfl ?_; intro K hK; go_big_quiet_op; go_big_quiet_on) | refine wpOrd_s (by decide) rfl rfl ?_)
  refine wpOrd_nil ?_
  clear hevT _hev
  obtain ⟨p, hp⟩ : ∃ p, p = x.dens * v := ⟨_, rfl⟩
  rw [hw.out, ← hp]
  replace hp := Lib.hid hp
  clear hw cx cy
  have K1 := K0.drew
  clear K0
  rcases (show held ≤ p ∨ ¬ held ≤ p by omega) with h1 | h1
  · rcases (show 0 < p ∨ ¬ 0 < p by omega) with h2 | h2
    · go_wp2
      exact bodyPost_ret (v := .bool (decide (held ≤ p) && decide (0 < p))) (by simp [results, Tryd.results109, go_sem, h1, h2]) rfl ⟨by rw [hp.out], K1⟩
    · go_wp2
      exact bodyPost_ret (v := .bool (decide (held ≤ p) && decide (0 < p))) (by simp [results, Tryd.results109, go_sem, h1, h2]) rfl ⟨by rw [hp.out], K1⟩
  · go_wp2
    exact bodyPost_ret (v := .bool (decide (held ≤ p) && decide (0 < p))) (by simp [results, Tryd.results109, go_sem, show decide (held ≤ p) = false from decide_eq_false (by omega)]) rfl ⟨by rw [hp.out], K1⟩
set_option maxHeartbeats 1000000 in
theorem blast_slow_any (g : Nat) (s : Stone) (v : Int) (x : Layer) (w : World) (hb : Blk w g 110 (fallCells s v)) (hs : StoneOk s) (hx : LayOk x) (hv : 0 ≤ v ∧ v ≤ 64000000) :
    Calls Tryd.prog 110 #[.pointer (some ⟨g, 0, none⟩), .agg #[.int .i64 x.thick, .int .i64 x.dens]] w fun e w' => e = .returned (.tuple #[]) ∧ Blk w' g 110 (fallCells s (slowedOf s x v)) ∧ Kp w.heap.size (some g) w w' := by
  have K0 := (Kp.refl w.heap.size (some g) w).alloc (Nat.le_refl _) (.cells #[.int .i64 x.thick, .int .i64 x.dens] 43)
  have B0 := Blk.new w 43 #[.int .i64 x.thick, .int .i64 x.dens]
  have F0 := hb.alloc (.cells #[.int .i64 x.thick, .int .i64 x.dens] 43)
  have hg := hb.lt
  have st := step_ok hs hx hv
  have sl : s.slope ≠ 0 := by have := hs.slope; omega
  have cA := fun i => F0.cell i
  have cB := fun i => B0.cell i
  have hs' := Lib.hid hs
  have st' := Lib.hid st
  have hv' := Lib.hid hv
  unfold fallCells at *
  clear hs hx hv st hb
  go_enter Tryd.func110, Tryd.ntmps110
  go_wp2_with fail
  obtain ⟨S, hS⟩ : ∃ S : Nat → World → Prop, S = fun _ w' => Blk w' w.heap.size 43 #[.int .i64 x.thick, .int .i64 x.dens] ∧ Blk w' g 110 #[.int .i64 s.size, .int .i64 s.dens, .int .i64 s.strong, .int .i64 s.spin, .int .i64 s.shape, .bool s.pile, .int .i64 s.speed, .int .i64 s.slope, .int .i64 v] := ⟨_, rfl⟩
  have hS0 : ∀ w', S 0 w' ↔ (Blk w' w.heap.size 43 #[.int .i64 x.thick, .int .i64 x.dens] ∧ Blk w' g 110 #[.int .i64 s.size, .int .i64 s.dens, .int .i64 s.strong, .int .i64 s.spin, .int .i64 s.shape, .bool s.pile, .int .i64 s.speed, .int .i64 s.slope, .int .i64 v]) := fun w' => by rw [hS]
  clear hS
  have cx := fun (x : Ev (S 0)) i => ((hS0 _).1 x.h).1.cell i
  have cy := fun (x : Ev (S 0)) i => ((hS0 _).1 x.h).2.cell i
  clear cA cB
  have hevT := ev_true
  refine wp_region_ord S [(0, 0), (1, 1), (2, 0), (3, 0), (4, 0), (5, 0), (6, 0), (7, 1), (8, 0), (9, 0), (10, 0), (11, 0), (12, 0), (13, 0), (14, 1), (15, 0), (16, 0)] [] (by kernel_rfl) (by kernel_rfl) ((hS0 _).2 ⟨B0, F0⟩) ?_
  intro _hev
  iterate 17 (first | (refine wpOrd_v rfl rfl ?_; intro K hK; go_big_quiet_op; go_big_quiet_on) | (refine wpOrd_q rfl rfl ?_; intro K hK; go_big_quiet_op; go_big_quiet_on) | refine wpOrd_s (by decide) rfl rfl ?_)
  refine wpOrd_nil ?_
  clear hevT _hev
  obtain ⟨wy, hwy⟩ : ∃ wy, wy = wayOf x.thick s.slope := ⟨_, rfl⟩
  have ewy : wrap64 ((wrap64 (wrap64 (wrap64 (x.thick * 1000) + s.slope) - 1)).tdiv s.slope) = wy := by
    have h1 := st'.out.t
    have h2 := hs'.out.slope
    have h3 : wrap64 (wrap64 (wrap64 (x.thick * 1000) + s.slope) - 1) = x.thick * 1000 + s.slope - 1 := by unfold wrap64; omega
    rw [h3, Int.tdiv_eq_ediv_of_nonneg h1.1, hwy]
    exact wrap64_of st'.out.way.1 (by have := st'.out.way.2; unfold wayOf at this; omega)
  rw [ewy]
  clear ewy cx cy
  have B1 := B0.drew
  have F1 := F0.drew
  have K1 := K0.drew
  clear B0 F0 K0 hS0 S
  generalize (w.alloc (.cells #[.int .i64 x.thick, .int .i64 x.dens] 43)).drew = w1 at *
  replace hwy := Lib.hid hwy
  have cA := fun i => F1.cell i
  have cB := fun i => B1.cell i
  go_wp2_with fail
  obtain ⟨S, hS⟩ : ∃ S : Nat → World → Prop, S = fun _ w' => Blk w' w.heap.size 43 #[.int .i64 x.thick, .int .i64 x.dens] ∧ Blk w' g 110 #[.int .i64 s.size, .int .i64 s.dens, .int .i64 s.strong, .int .i64 s.spin, .int .i64 s.shape, .bool s.pile, .int .i64 s.speed, .int .i64 s.slope, .int .i64 v] := ⟨_, rfl⟩
  have hS0 : ∀ w', S 0 w' ↔ (Blk w' w.heap.size 43 #[.int .i64 x.thick, .int .i64 x.dens] ∧ Blk w' g 110 #[.int .i64 s.size, .int .i64 s.dens, .int .i64 s.strong, .int .i64 s.spin, .int .i64 s.shape, .bool s.pile, .int .i64 s.speed, .int .i64 s.slope, .int .i64 v]) := fun w' => by rw [hS]
  clear hS
  have cx := fun (x : Ev (S 0)) i => ((hS0 _).1 x.h).1.cell i
  have cy := fun (x : Ev (S 0)) i => ((hS0 _).1 x.h).2.cell i
  clear cA cB
  have hevT := ev_true
  refine wp_region_ord S [(0, 0), (1, 1), (2, 0), (3, 0), (4, 0), (5, 1), (6, 0), (7, 0), (8, 0), (9, 0), (10, 0), (11, 0), (12, 1), (13, 0), (14, 0), (15, 0), (16, 0), (17, 0), (18, 1), (19, 0), (20, 0), (21, 0), (22, 0), (23, 1), (24, 0), (25, 0), (26, 2), (27, 0), (28, 0), (29, 0), (30, 0), (31, 0), (32, 0), (33, 0)] [] (by kernel_rfl) (by kernel_rfl) ((hS0 _).2 ⟨B1, F1⟩) ?_
  intro _hev
  iterate 26 (first | (refine wpOrd_v rfl rfl ?_; intro K hK; go_big_quiet_op; go_big_quiet_on) | (refine wpOrd_q rfl rfl ?_; intro K hK; go_big_quiet_op; go_big_quiet_on) | refine wpOrd_s (by decide) rfl rfl ?_)
  refine wpOrd_l rfl rfl ?_; intro K hK
  go_step
  obtain ⟨p, hp⟩ : ∃ p, p = x.dens * v := ⟨_, rfl⟩
  obtain ⟨m, hm⟩ : ∃ m, m = wy * s.shape := ⟨_, rfl⟩
  obtain ⟨d, hd⟩ : ∃ d, d = s.dens * s.size := ⟨_, rfl⟩
  obtain ⟨c, hc⟩ : ∃ c, c = d * 1000 := ⟨_, rfl⟩
  have bp : 0 ≤ p ∧ p ≤ 64000000000 := by rw [hp]; exact st'.out.p
  have bm : 0 ≤ m ∧ m ≤ 2002000000 := by rw [hm, hwy.out]; exact st'.out.ws
  have bd : 1 ≤ d ∧ d ≤ 9000000 := by rw [hd]; exact ⟨st'.out.d1, st'.out.ds.2⟩
  have hls : p * m / c = lessOf s x v := by rw [hp, hm, hc, hd, hwy.out]; rfl
  have bl := st'.out.less
  rw [← hls] at bl
  rw [← hp, ← hm, ← hd, wrap64_of bp.1 (by omega), wrap64_of bm.1 (by omega), wrap64_of (show 0 ≤ d by omega) (by omega), ← hc, wrap64_of (show 0 ≤ c by omega) (by omega)]
  refine (span_MulDiv_int p m c ⟨bp.1, by omega⟩ ⟨bm.1, by omega⟩ (by omega) (by omega) _).mono ?_
  rintro e w2 ⟨⟨u, rfl⟩, k2⟩
  obtain ⟨q, hq⟩ : ∃ q, q = p * m / c := ⟨_, rfl⟩
  rw [← hq] at hls bl ⊢
  have B2 := B1.drew.kp k2 B1.drew.lt (by simp)
  have F2 := F1.drew.kp k2 F1.drew.lt (by simp)
  have K2 := K1.drew.thenN k2 (Nat.le_refl _)
  refine hK _ _ ((hS0 _).2 ⟨B2, F2⟩) ?_
  clear hK K hp hm hd hc bp bm bd hq k2 F1 B1 K1
  iterate 7 (first | (refine wpOrd_v rfl rfl ?_; intro K hK; go_big_quiet_op; go_big_quiet_on) | (refine wpOrd_q rfl rfl ?_; intro K hK; go_big_quiet_op; go_big_quiet_on) | refine wpOrd_s (by decide) rfl rfl ?_)
  refine wpOrd_nil ?_
  clear hevT _hev
  have cA := fun i => F2.cell i
  have fA := fun i => F2.frozen i
  have ewq : max 0 (wrap64 (v - lessOf s x v)) = slowedOf s x v := by
    have h1 := hv'.out
    have h2 := st'.out.less
    rw [show wrap64 (v - lessOf s x v) = v - lessOf s x v from by unfold wrap64; omega]
    rfl
  replace ewq := Lib.hid ewq
  replace hls := Lib.hid hls
  clear bl
  go_wp2
  rw [ewq.out]
  exact bodyPost_end (by simp [results, Tryd.results110, go_sem]) rfl ⟨rfl, by simpa using F2.set_ 8 (.int .i64 (slowedOf s x v)), K2.setRow rfl _⟩
set_option maxHeartbeats 400000 in
theorem blast_goes_any (g : Nat) (s : Stone) (v : Int) (x : Layer) (w : World) (hb : Blk w g 110 (fallCells s v)) (hs : StoneOk s) (hx : LayOk x) (hv : 0 ≤ v ∧ v ≤ 64000000) :
    Calls Tryd.prog 76 #[.pointer (some ⟨g, 0, none⟩), .agg #[.int .i64 x.thick, .int .i64 x.dens]] w fun e w' => e = .returned (.bool (!burstsAt x.dens v (holdOf s.strong s.spin s.pile))) ∧
      Blk w' g 110 (fallCells s (afterOf s x v)) ∧ Kp w.heap.size (some g) w w' := by
  have K0 := (Kp.refl w.heap.size (some g) w).alloc (Nat.le_refl _) (.cells #[.int .i64 x.thick, .int .i64 x.dens] 43)
  have B0 := Blk.new w 43 #[.int .i64 x.thick, .int .i64 x.dens]
  have F0 := hb.alloc (.cells #[.int .i64 x.thick, .int .i64 x.dens] 43)
  have hg := hb.lt
  have st := (step_ok hs hx hv).p
  have cA := fun i => F0.cell i
  have cB := fun i => B0.cell i
  have hs' := Lib.hid hs
  have hx' := Lib.hid hx
  have st' := Lib.hid st
  have hv' := Lib.hid hv
  clear hs hx hv st hb
  unfold fallCells at cA
  go_enter Tryd.func76, Tryd.ntmps76
  go_wp2_with fail
  obtain ⟨S, hS⟩ : ∃ S : Nat → World → Prop, S = fun _ w' => Blk w' w.heap.size 43 #[.int .i64 x.thick, .int .i64 x.dens] ∧ Blk w' g 110 #[.int .i64 s.size, .int .i64 s.dens, .int .i64 s.strong, .int .i64 s.spin, .int .i64 s.shape, .bool s.pile, .int .i64 s.speed, .int .i64 s.slope, .int .i64 v] := ⟨_, rfl⟩
  have hS0 : ∀ w', S 0 w' ↔ (Blk w' w.heap.size 43 #[.int .i64 x.thick, .int .i64 x.dens] ∧ Blk w' g 110 #[.int .i64 s.size, .int .i64 s.dens, .int .i64 s.strong, .int .i64 s.spin, .int .i64 s.shape, .bool s.pile, .int .i64 s.speed, .int .i64 s.slope, .int .i64 v]) := fun w' => by rw [hS]
  clear hS
  have cx := fun (x : Ev (S 0)) i => ((hS0 _).1 x.h).1.cell i
  have cy := fun (x : Ev (S 0)) i => ((hS0 _).1 x.h).2.cell i
  clear cA cB
  have hevT := ev_true
  refine wp_region_ord S [(0, 0), (1, 1), (2, 0), (3, 0), (4, 0), (5, 1), (6, 2), (7, 2)] [] (by kernel_rfl) (by kernel_rfl) ((hS0 _).2 ⟨B0, F0⟩) ?_
  intro _hev
  iterate 6 (first | (refine wpOrd_v rfl rfl ?_; intro K hK; go_big_quiet_op; go_big_quiet_on) | (refine wpOrd_q rfl rfl ?_; intro K hK; go_big_quiet_op; go_big_quiet_on) | refine wpOrd_s (by decide) rfl rfl ?_)
  refine wpOrd_l rfl rfl ?_; intro K hK
  go_step
  refine (blast_hold_any s hs'.out _).mono ?_
  rintro e w1 ⟨rfl, k1⟩
  have B1 := B0.drew.kp k1 B0.drew.lt (by simp)
  have F1 := F0.drew.kp k1 F0.drew.lt (by simp)
  have K1 := K0.drew.thenN k1 (by simp)
  refine hK _ _ ((hS0 _).2 ⟨B1, F1⟩) ?_
  clear hK K k1 B0 F0 K0
  refine wpOrd_l rfl rfl ?_; intro K hK
  go_step
  refine (blast_bursts_any g s v x _ _ F1 st'.out).mono ?_
  rintro e w2 ⟨rfl, k2⟩
  have B2 := B1.kp k2 B1.lt (by simp)
  have F2 := F1.kp k2 F1.lt (by simp)
  have K2 := K1.thenN k2 (by simp)
  refine hK _ _ ((hS0 _).2 ⟨B2, F2⟩) ?_
  clear hK K k2 B1 F1 K1
  refine wpOrd_nil ?_
  clear hevT _hev
  have cB := fun i => B2.cell i
  cases hb : burstsAt x.dens v (holdOf s.strong s.spin s.pile)
  · go_wp2_with fail
    refine (blast_slow_any g s v x _ F2 hs'.out hx'.out hv'.out).mono ?_
    rintro e w3 ⟨rfl, F3, k3⟩
    have K3 := K2.then_ k3 (by simp)
    clear cB F2 k3
    go_wp2
    exact bodyPost_ret (v := .bool true) (by simp [results, Tryd.results76, go_sem]) rfl ⟨by rw [hb]; rfl, by unfold afterOf; rw [if_neg (by rw [hb]; simp)]; exact F3, K3⟩
  · go_wp2
    exact bodyPost_ret (v := .bool false) (by simp [results, Tryd.results76, go_sem]) rfl ⟨by rw [hb]; rfl, by unfold afterOf; rw [if_pos hb]; exact F2, K2⟩
end Go.Proofs.YtdiigflbohbndaaDoor
