/- Stones: masses, what holds them, checks, craters. -/
import Derived.Test.YtdiigflbohbndaaDoorRoot
import Derived.Test.YtdiigflbohbndaaDoorLists2
namespace Go.Proofs.YtdiigflbohbndaaDoor
open Go.RowKit

structure StoneOk (s : Stone) : Prop where
  size : 1 ≤ s.size ∧ s.size ≤ 1000
  dens : 1 ≤ s.dens ∧ s.dens ≤ 9000
  strong : 0 ≤ s.strong ∧ s.strong ≤ 1099511627776
  spin : 0 ≤ s.spin ∧ s.spin ≤ 1000
  shape : 500 ≤ s.shape ∧ s.shape ≤ 2000
  speed : 1 ≤ s.speed ∧ s.speed ≤ 8000
  slope : 1 ≤ s.slope ∧ s.slope ≤ 1000
def massOf (size dens : Int) : Int := size * size * size * dens / 1000
def holdOf (strong spin : Int) (pile : Bool) : Int := if pile then strong * (1000 - spin) / 1000 else strong

theorem mul_in {a b A B : Int} (ha : 0 ≤ a) (hA : a ≤ A) (hb : 0 ≤ b) (hB : b ≤ B) : 0 ≤ a * b ∧ a * b ≤ A * B :=
  ⟨Int.mul_nonneg ha hb, Int.mul_le_mul hA hB hb (Int.le_trans ha hA)⟩
theorem wrap64_of {n : Int} (h0 : 0 ≤ n) (h1 : n ≤ 9223372036854775807) : wrap64 n = n := by unfold wrap64; omega
theorem wrap_div {n d : Int} (h0 : 0 ≤ n) (h1 : n ≤ 9223372036854775807) (hd : 0 < d) : wrap64 ((wrap64 n).tdiv d) = n / d := by
  rw [wrap64_of h0 h1, Int.tdiv_eq_ediv_of_nonneg h0]
  exact wrap64_of (Int.ediv_nonneg h0 (by omega)) (Int.le_trans (Int.ediv_le_self d h0) h1)
theorem mass_val {a d : Int} (ha : 1 ≤ a ∧ a ≤ 1000) (hd : 1 ≤ d ∧ d ≤ 9000) : wrap64 ((wrap64 (wrap64 (wrap64 (a * a) * a) * d)).tdiv 1000) = massOf a d ∧ 0 ≤ massOf a d ∧ massOf a d ≤ 9000000000 := by
  obtain ⟨h1, h2⟩ := mul_in (show 0 ≤ a by omega) ha.2 (show 0 ≤ a by omega) ha.2
  obtain ⟨h3, h4⟩ := mul_in h1 h2 (show 0 ≤ a by omega) ha.2
  obtain ⟨h5, h6⟩ := mul_in h3 h4 (show 0 ≤ d by omega) hd.2
  rw [wrap64_of h1 (by omega), wrap64_of h3 (by omega)]
  refine ⟨wrap_div h5 (by omega) (by omega), ?_, ?_⟩ <;> (unfold massOf; omega)
theorem hold_val {t n : Int} (ht : 0 ≤ t ∧ t ≤ 1099511627776) (hn : 0 ≤ n ∧ n ≤ 1000) : wrap64 ((wrap64 (t * wrap64 (1000 - n))).tdiv 1000) = t * (1000 - n) / 1000 ∧ 0 ≤ t * (1000 - n) / 1000 ∧ t * (1000 - n) / 1000 ≤ t := by
  obtain ⟨h1, h2⟩ := mul_in ht.1 ht.2 (show 0 ≤ 1000 - n by omega) (show 1000 - n ≤ 1000 by omega)
  obtain ⟨h3, h4⟩ := mul_in ht.1 (Int.le_refl t) (show 0 ≤ 1000 - n by omega) (show 1000 - n ≤ 1000 by omega)
  rw [wrap64_of (show 0 ≤ 1000 - n by omega) (by omega)]
  refine ⟨wrap_div h1 (by omega) (by omega), by omega, by omega⟩
theorem hold_bd {t n : Int} (p : Bool) (ht : 0 ≤ t ∧ t ≤ 1099511627776) (hn : 0 ≤ n ∧ n ≤ 1000) : 0 ≤ holdOf t n p ∧ holdOf t n p ≤ t := by
  unfold holdOf
  split
  · exact (hold_val ht hn).2
  · exact ⟨ht.1, Int.le_refl _⟩
set_option maxHeartbeats 400000 in
theorem blast_mass_any (s : Stone) (h : StoneOk s) (w : World) :
    Calls Tryd.prog 77 #[.agg #[.int .i64 s.size, .int .i64 s.dens, .int .i64 s.strong, .int .i64 s.spin, .int .i64 s.shape, .bool s.pile, .int .i64 s.speed, .int .i64 s.slope]] w fun e w' => e = .returned (.int .i64 (massOf s.size s.dens)) ∧ Kp w.heap.size none w w' := by
  have K := (Kp.refl w.heap.size none w).alloc (Nat.le_refl _) (.cells #[.int .i64 s.size, .int .i64 s.dens, .int .i64 s.strong, .int .i64 s.spin, .int .i64 s.shape, .bool s.pile, .int .i64 s.speed, .int .i64 s.slope] 36)
  go_enter Tryd.func77, Tryd.ntmps77
  go_wp2
  go_ret
  exact ⟨ret_int (mass_val h.size h.dens).1, K⟩
set_option maxHeartbeats 400000 in
theorem blast_hold_any (s : Stone) (h : StoneOk s) (w : World) :
    Calls Tryd.prog 78 #[.agg #[.int .i64 s.size, .int .i64 s.dens, .int .i64 s.strong, .int .i64 s.spin, .int .i64 s.shape, .bool s.pile, .int .i64 s.speed, .int .i64 s.slope]] w fun e w' => e = .returned (.int .i64 (holdOf s.strong s.spin s.pile)) ∧ Kp w.heap.size none w w' := by
  have K := (Kp.refl w.heap.size none w).alloc (Nat.le_refl _) (.cells #[.int .i64 s.size, .int .i64 s.dens, .int .i64 s.strong, .int .i64 s.spin, .int .i64 s.shape, .bool s.pile, .int .i64 s.speed, .int .i64 s.slope] 36)
  cases hq : s.pile
  all_goals
    rw [hq] at K
    go_enter Tryd.func78, Tryd.ntmps78
    go_wp2
    go_ret
  · exact ⟨ret_int (by simp [holdOf]), K⟩
  · exact ⟨ret_int (by rw [(hold_val h.strong h.spin).1]; simp [holdOf]), K⟩
set_option maxHeartbeats 400000 in
theorem ref_mass_any (a d : Int) (ha : 1 ≤ a ∧ a ≤ 1000) (hd : 1 ≤ d ∧ d ≤ 9000) (w : World) :
    Calls Tryd.prog 91 #[.int .i64 a, .int .i64 d] w fun e w' => e = .returned (.int .i64 (massOf a d)) ∧ Kp w.heap.size none w w' := by
  have m := Lib.hid (mass_val ha hd).1
  clear ha hd
  go_enter Tryd.func91, Tryd.ntmps91
  go_wp2
  go_ret
  exact ⟨ret_int m.out, Kp.refl _ _ _⟩
set_option maxHeartbeats 400000 in
theorem ref_holds_any (t n : Int) (p : Bool) (ht : 0 ≤ t ∧ t ≤ 1099511627776) (hn : 0 ≤ n ∧ n ≤ 1000) (w : World) :
    Calls Tryd.prog 92 #[.int .i64 t, .int .i64 n, .bool p] w fun e w' => e = .returned (.int .i64 (holdOf t n p)) ∧ Kp w.heap.size none w w' := by
  have m := Lib.hid (hold_val ht hn).1
  clear ht hn
  cases p
  all_goals
    go_enter Tryd.func92, Tryd.ntmps92
    go_wp2
    go_ret
  · exact ⟨ret_int (by simp [holdOf]), Kp.refl _ _ _⟩
  · exact ⟨ret_int (by rw [m.out]; simp [holdOf]), Kp.refl _ _ _⟩
theorem isRoot_le {n r : Nat} (h : IsRoot n r) : r ≤ n := by
  rcases Nat.eq_zero_or_pos r with h0 | h0
  · omega
  · exact Nat.le_trans (Nat.le_mul_of_pos_left r h0) h.1
def IsCrater (n r : Nat) : Prop := ∃ q, IsRoot n q ∧ IsRoot q r
theorem crater_one {n a b : Nat} (h : IsCrater n a) (k : IsCrater n b) : a = b := by
  obtain ⟨q, h1, h2⟩ := h
  obtain ⟨q', k1, k2⟩ := k
  cases root_one h1.1 h1.2 k1.1 k1.2
  exact root_one h2.1 h2.2 k2.1 k2.2
set_option maxHeartbeats 400000 in
theorem blast_Crater_any (n : Nat) (hn : n < 9223372036854775808) (w : World) :
    Calls Tryd.prog 24 #[.int .i64 n] w fun e w' => (∃ r : Nat, e = .returned (.int .i64 r) ∧ IsCrater n r) ∧ Kp w.heap.size none w w' := by
  go_enter Tryd.func24, Tryd.ntmps24
  go_wp2_with fail
  refine (span_Root_any n hn _).mono ?_
  rintro e w1 ⟨⟨q, rfl, hq⟩, k1⟩
  have hqn := isRoot_le hq
  have hq' := Lib.hid hq
  clear hq
  have g1 : ¬ (q : Int) < 0 := by omega
  go_wp2_with fail
  refine (span_Root_any q (by omega) _).mono ?_
  rintro e w2 ⟨⟨r, rfl, hr⟩, k2⟩
  have hr' := Lib.hid hr
  clear hr
  have g2 : ¬ (r : Int) < 0 := by omega
  have K := k1.then_ k2 (Nat.le_refl _)
  go_wp2_with fail
  exact bodyPost_ret (by simp [results, Tryd.results24, go_sem]) rfl ⟨⟨r, rfl, q, hq'.out, hr'.out⟩, K⟩
set_option maxHeartbeats 400000 in
theorem ref_Crater_any (n : Nat) (hn : n < 9223372036854775808) (w : World) :
    Calls Tryd.prog 52 #[.int .i64 n] w fun e w' => (∃ r : Nat, e = .returned (.int .i64 r) ∧ IsCrater n r) ∧ Kp w.heap.size none w w' := by
  have g0 : ¬ (n : Int) < 0 := by omega
  go_enter Tryd.func52, Tryd.ntmps52
  go_wp2_with fail
  refine (ref_Root_any n hn _).mono ?_
  rintro e w1 ⟨⟨q, rfl, hq⟩, k1⟩
  have hqn := isRoot_le hq
  have hq' := Lib.hid hq
  clear hq
  go_wp2_with fail
  refine (ref_Root_any q (by omega) _).mono ?_
  rintro e w2 ⟨⟨r, rfl, hr⟩, k2⟩
  have hr' := Lib.hid hr
  clear hr
  have K := k1.then_ k2 (Nat.le_refl _)
  go_wp2_with fail
  exact bodyPost_ret (by simp [results, Tryd.results52, go_sem]) rfl ⟨⟨r, rfl, q, hq'.out, hr'.out⟩, K⟩
end Go.Proofs.YtdiigflbohbndaaDoor
