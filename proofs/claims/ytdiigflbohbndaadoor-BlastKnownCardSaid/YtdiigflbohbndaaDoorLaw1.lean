/- The statement on piles and craters: its walk. -/
import Derived.Test.YtdiigflbohbndaaDoorAwake
namespace Go.Proofs.YtdiigflbohbndaaDoor
open Go.RowKit

set_option maxHeartbeats 400000 in
theorem kit_Mod_any (n m : Int) (hm : 1 ≤ m ∧ m ≤ 4611686018427387904) (w : World) : Calls Tryd.prog 27 #[.int .i64 n, .int .i64 m] w fun e w' => e = .returned (.int .i64 (n % m)) ∧ Kp w.heap.size none w w' := by
  have hm0 : m ≠ 0 := by omega
  obtain ⟨r, hr⟩ : ∃ r, r = n.tmod m := ⟨_, rfl⟩
  have h1 : -m < r := by rw [hr]; exact Int.lt_tmod_of_pos n (by omega)
  have h2 : r < m := by rw [hr]; exact Int.tmod_lt_of_pos n (by omega)
  have h3 : wrap64 (n.tmod m) = r := by rw [← hr]; unfold wrap64; omega
  have h4 : n % m = if r < 0 then r + m else r := by
    have he := Int.emod_add_mul_ediv n m
    have ht := Int.tmod_add_mul_tdiv n m
    split
    · rename_i hn
      have : (r + m) % m = n % m := by
        rw [hr, Int.add_emod_right]
        conv => rhs; rw [← ht, Int.add_mul_emod_self_left]
      rw [← this]
      exact Int.emod_eq_of_lt (by omega) (by omega)
    · rename_i hn
      have : r % m = n % m := by
        rw [hr]
        conv => rhs; rw [← ht, Int.add_mul_emod_self_left]
      rw [← this]
      exact Int.emod_eq_of_lt (by omega) (by omega)
  replace h4 := Lib.hid h4
  rw [hr] at h1 h2 h4
  clear h3 hr
  rcases (show n.tmod m < 0 ∨ ¬ n.tmod m < 0 by omega) with hn | hn
  · have h5 := Lib.hid (show wrap64 (n.tmod m + m) = n.tmod m + m by unfold wrap64; omega)
    go_enter Tryd.func27, Tryd.ntmps27
    go_wp2
    exact bodyPost_ret (v := .int .i64 (n.tmod m + m)) (by simp [results, Tryd.results27, go_sem]) rfl ⟨by rw [h4.out, if_pos hn], Kp.refl _ _ _⟩
  · go_enter Tryd.func27, Tryd.ntmps27
    go_wp2
    exact bodyPost_ret (v := .int .i64 (n.tmod m)) (by simp [results, Tryd.results27, go_sem]) rfl ⟨by rw [h4.out, if_neg (by omega)], Kp.refl _ _ _⟩
set_option maxHeartbeats 400000 in
theorem kit_Mod64_any (n m : Int) (hm : 1 ≤ m ∧ m ≤ 4611686018427387904) (w : World) : Calls Tryd.prog 21 #[.int .i64 n, .int .i64 m] w fun e w' => e = .returned (.int .i64 (n % m)) ∧ Kp w.heap.size none w w' := by
  have hm0 : m ≠ 0 := by omega
  obtain ⟨r, hr⟩ : ∃ r, r = n.tmod m := ⟨_, rfl⟩
  have h1 : -m < r := by rw [hr]; exact Int.lt_tmod_of_pos n (by omega)
  have h2 : r < m := by rw [hr]; exact Int.tmod_lt_of_pos n (by omega)
  have h3 : wrap64 (n.tmod m) = r := by rw [← hr]; unfold wrap64; omega
  have h4 : n % m = if r < 0 then r + m else r := by
    have he := Int.emod_add_mul_ediv n m
    have ht := Int.tmod_add_mul_tdiv n m
    split
    · rename_i hn
      have : (r + m) % m = n % m := by
        rw [hr, Int.add_emod_right]
        conv => rhs; rw [← ht, Int.add_mul_emod_self_left]
      rw [← this]
      exact Int.emod_eq_of_lt (by omega) (by omega)
    · rename_i hn
      have : r % m = n % m := by
        rw [hr]
        conv => rhs; rw [← ht, Int.add_mul_emod_self_left]
      rw [← this]
      exact Int.emod_eq_of_lt (by omega) (by omega)
  replace h4 := Lib.hid h4
  rw [hr] at h1 h2 h4
  clear h3 hr
  rcases (show n.tmod m < 0 ∨ ¬ n.tmod m < 0 by omega) with hn | hn
  · have h5 := Lib.hid (show wrap64 (n.tmod m + m) = n.tmod m + m by unfold wrap64; omega)
    go_enter Tryd.func21, Tryd.ntmps21
    go_wp2
    exact bodyPost_ret (v := .int .i64 (n.tmod m + m)) (by simp [results, Tryd.results21, go_sem]) rfl ⟨by rw [h4.out, if_pos hn], Kp.refl _ _ _⟩
  · go_enter Tryd.func21, Tryd.ntmps21
    go_wp2
    exact bodyPost_ret (v := .int .i64 (n.tmod m)) (by simp [results, Tryd.results21, go_sem]) rfl ⟨by rw [h4.out, if_neg (by omega)], Kp.refl _ _ _⟩
theorem stoneOk_of_in {s : Stone} {r : Rock} {f : Fall} (h : StoneIn s r f) (k : RockOk r f) : StoneOk s := by
  obtain ⟨⟨a1, a2⟩, ⟨b1, b2⟩, ⟨c1, c2⟩, ⟨d1, d2⟩, ⟨e1, e2⟩, _, ⟨f1, f2⟩, ⟨g1, g2⟩⟩ := h
  obtain ⟨⟨r1, r2, r3⟩, ⟨s1, s2, s3⟩, ⟨t1, t2, t3⟩, ⟨n1, n2, n3⟩, ⟨h1, h2, h3⟩, ⟨v1, v2, v3⟩, ⟨l1, l2, l3⟩⟩ := k
  exact ⟨by omega, by omega, by omega, by omega, by omega, by omega, by omega⟩
theorem crater_val {n c : Nat} (hn : n < 1152921504606846976) (h : IsCrater n c) : ∃ p2 p3 p4 q2 q3 q4 : Int,
    wrap64 ((c : Int) * (c : Int)) = p2 ∧ wrap64 (p2 * (c : Int)) = p3 ∧ wrap64 (p3 * (c : Int)) = p4 ∧ p4 ≤ (n : Int) ∧
    wrap64 (((c : Int) + 1) * ((c : Int) + 1)) = q2 ∧ wrap64 (q2 * ((c : Int) + 1)) = q3 ∧ wrap64 (q3 * ((c : Int) + 1)) = q4 ∧ (n : Int) < q4 ∧ (c : Int) ≤ 32767 := by
  obtain ⟨q, ⟨h1, h2⟩, ⟨h3, h4⟩⟩ := h
  have a1 : c * c * (c * c) ≤ n := Nat.le_trans (Nat.mul_le_mul h3 h3) h1
  have a2 : n < (c + 1) * (c + 1) * ((c + 1) * (c + 1)) := Nat.lt_of_lt_of_le h2 (Nat.mul_le_mul h4 h4)
  have a3 : c ≤ 32767 := by
    rcases Nat.lt_or_ge c 32768 with h | h
    · omega
    · exfalso
      have := Nat.mul_le_mul (Nat.mul_le_mul h h) (Nat.mul_le_mul h h)
      omega
  have up : ∀ d : Nat, d ≤ 32768 → ∃ p2 p3 p4 : Int, wrap64 ((d : Int) * (d : Int)) = p2 ∧ wrap64 (p2 * (d : Int)) = p3 ∧ wrap64 (p3 * (d : Int)) = p4 ∧ p4 = ((d * d * (d * d) : Nat) : Int) := by
    intro d hd
    have b2 : d * d ≤ 32768 * 32768 := Nat.mul_le_mul hd hd
    have b3 : d * d * d ≤ 32768 * 32768 * 32768 := Nat.mul_le_mul b2 hd
    have b4 : d * d * d * d ≤ 32768 * 32768 * 32768 * 32768 := Nat.mul_le_mul b3 hd
    have e2 : (d : Int) * (d : Int) = ((d * d : Nat) : Int) := by push_cast; rfl
    have e3 : ((d * d : Nat) : Int) * (d : Int) = ((d * d * d : Nat) : Int) := by push_cast; rfl
    have e4 : ((d * d * d : Nat) : Int) * (d : Int) = ((d * d * d * d : Nat) : Int) := by push_cast; rfl
    refine ⟨((d * d : Nat) : Int), ((d * d * d : Nat) : Int), ((d * d * d * d : Nat) : Int), ?_, ?_, ?_, ?_⟩
    · rw [e2]; exact wrap64_of (by omega) (by omega)
    · rw [e3]; exact wrap64_of (by omega) (by omega)
    · rw [e4]; exact wrap64_of (by omega) (by omega)
    · rw [← Nat.mul_assoc (d * d) d d]
  obtain ⟨p2, p3, p4, f1, f2, f3, f4⟩ := up c (by omega)
  obtain ⟨q2, q3, q4, g1, g2, g3, g4⟩ := up (c + 1) (by omega)
  exact ⟨p2, p3, p4, q2, q3, q4, f1, f2, f3, by rw [f4]; exact Int.ofNat_le.2 a1, g1, g2, g3, by rw [g4]; exact Int.ofNat_lt.2 a2, by omega⟩
set_option maxRecDepth 100000 in
set_option maxHeartbeats 2000000 in
theorem law_BlastHolds_any (A : Option Addr) (cap : Nat) (nums : List Int) (en : Int) (w : World) (h : Rd none w 1 (fun x => [Value.int .i64 x]) A nums.length nums) (hn : nums.length ≤ 17592186044416) (hb : Bnd w) :
    Calls Tryd.prog 4 #[.slice A nums.length cap, .int .i64 en] w fun e w' => e = .returned (.bool true) ∧ Kp w.heap.size none w w' := by
  go_enter Tryd.func4, Tryd.ntmps4
  go_wp2_with fail
  refine (newRing_any A cap nums _ h hn).mono ?_
  rintro e w1 ⟨g, rfl, hg, hr, K1⟩
  go_wp2_with fail
  refine (rockOf_any g nums 0 _ hr (by omega)).mono ?_
  rintro e w2 ⟨v, rfl, ⟨r, f, rfl, hrk, -⟩, hr2, k2⟩
  have K2 := K1.thenOwn k2 (Nat.le_refl _) hg
  clear k2 K1 hr
  have hz2 : g < w2.heap.size := hr2.lt
  have Kr := K2.alloc K2.size (.cells #[.int .i64 r.size.lo, .int .i64 r.size.hi, .int .i64 r.dens.lo, .int .i64 r.dens.hi, .int .i64 r.strong.lo, .int .i64 r.strong.hi, .int .i64 r.spin.lo, .int .i64 r.spin.hi, .int .i64 r.shape.lo, .int .i64 r.shape.hi, .bool r.pile] 28)
  have Kf := Kr.alloc Kr.size (.cells #[.int .i64 f.speed.lo, .int .i64 f.speed.hi, .int .i64 f.slope.lo, .int .i64 f.slope.hi] 30)
  have Rf := (hr2.alloc (.cells #[.int .i64 r.size.lo, .int .i64 r.size.hi, .int .i64 r.dens.lo, .int .i64 r.dens.hi, .int .i64 r.strong.lo, .int .i64 r.strong.hi, .int .i64 r.spin.lo, .int .i64 r.spin.hi, .int .i64 r.shape.lo, .int .i64 r.shape.hi, .bool r.pile] 28)).alloc (.cells #[.int .i64 f.speed.lo, .int .i64 f.speed.hi, .int .i64 f.slope.lo, .int .i64 f.slope.hi] 30)
  go_wp2_with fail
  refine (stoneOf_any g nums _ r f _ Rf (by omega) hrk).mono ?_
  rintro e w3 ⟨v, rfl, ⟨s, rfl, hs0⟩, hr3, k3⟩
  have hs := stoneOk_of_in hs0 hrk
  have K3 := Kf.thenOwn k3 (by omega) hg
  clear k3 Kf Kr Rf K2 hr2 hr3 hs0 hrk h
  go_wp2_with fail
  obtain ⟨s1, e1⟩ : ∃ t : Stone, t = ⟨s.size, s.dens, s.strong, s.spin, s.shape, false, s.speed, s.slope⟩ := ⟨_, rfl⟩
  obtain ⟨s2, e2⟩ : ∃ t : Stone, t = ⟨s.size, s.dens, s.strong, 0, s.shape, true, s.speed, s.slope⟩ := ⟨_, rfl⟩
  have S1 : Blk ((w3.alloc (.cells #[.int .i64 s.size, .int .i64 s.dens, .int .i64 s.strong, .int .i64 s.spin, .int .i64 s.shape, .bool false, .int .i64 s.speed, .int .i64 s.slope] 36)).alloc (.cells #[.int .i64 s.size, .int .i64 s.dens, .int .i64 s.strong, .int .i64 0, .int .i64 s.shape, .bool true, .int .i64 s.speed, .int .i64 s.slope] 36)) w3.heap.size 36 #[.int .i64 s1.size, .int .i64 s1.dens, .int .i64 s1.strong, .int .i64 s1.spin, .int .i64 s1.shape, .bool s1.pile, .int .i64 s1.speed, .int .i64 s1.slope] := by
    rw [e1]; exact (Blk.new _ _ _).alloc _
  have S2 : Blk ((w3.alloc (.cells #[.int .i64 s.size, .int .i64 s.dens, .int .i64 s.strong, .int .i64 s.spin, .int .i64 s.shape, .bool false, .int .i64 s.speed, .int .i64 s.slope] 36)).alloc (.cells #[.int .i64 s.size, .int .i64 s.dens, .int .i64 s.strong, .int .i64 0, .int .i64 s.shape, .bool true, .int .i64 s.speed, .int .i64 s.slope] 36)) (w3.heap.size + 1) 36 #[.int .i64 s2.size, .int .i64 s2.dens, .int .i64 s2.strong, .int .i64 s2.spin, .int .i64 s2.shape, .bool s2.pile, .int .i64 s2.speed, .int .i64 s2.slope] := by
    rw [e2]; exact Blk.newAt _ _ _ (by simp)
  have K4 := (K3.alloc K3.size (.cells #[.int .i64 s.size, .int .i64 s.dens, .int .i64 s.strong, .int .i64 s.spin, .int .i64 s.shape, .bool false, .int .i64 s.speed, .int .i64 s.slope] 36)).alloc (alloc_ge K3.size _) (.cells #[.int .i64 s.size, .int .i64 s.dens, .int .i64 s.strong, .int .i64 0, .int .i64 s.shape, .bool true, .int .i64 s.speed, .int .i64 s.slope] 36)
  have hst : s2.strong = s1.strong := by rw [e1, e2]
  have ok1 : StoneOk s1 := by rw [e1]; exact ⟨hs.size, hs.dens, hs.strong, hs.spin, hs.shape, hs.speed, hs.slope⟩
  have ok2 : StoneOk s2 := by rw [e2]; exact ⟨hs.size, hs.dens, hs.strong, by simp, hs.shape, hs.speed, hs.slope⟩
  have h1 : holdOf s1.strong s1.spin s1.pile = s1.strong := by rw [e1]; rfl
  have h2 : holdOf s2.strong s2.spin s2.pile = s1.strong := by rw [e1, e2]; show s.strong * (1000 - 0) / 1000 = s.strong; omega
  have h3 : s2.pile = true := by rw [e2]
  have hw3 := K3.size
  generalize ((w3.alloc (.cells #[.int .i64 s.size, .int .i64 s.dens, .int .i64 s.strong, .int .i64 s.spin, .int .i64 s.shape, .bool false, .int .i64 s.speed, .int .i64 s.slope] 36)).alloc (.cells #[.int .i64 s.size, .int .i64 s.dens, .int .i64 s.strong, .int .i64 0, .int .i64 s.shape, .bool true, .int .i64 s.speed, .int .i64 s.slope] 36)) = w4 at S1 S2 K4 ⊢
  replace ok1 := Lib.hid ok1
  replace ok2 := Lib.hid ok2
  replace h1 := Lib.hid h1
  replace h2 := Lib.hid h2
  replace h3 := Lib.hid h3
  replace hst := Lib.hid hst
  clear hs e1 e2 K3
  obtain ⟨S, hS⟩ : ∃ S : Nat → World → Prop, S = fun _ w' => Blk w' w3.heap.size 36 #[.int .i64 s1.size, .int .i64 s1.dens, .int .i64 s1.strong, .int .i64 s1.spin, .int .i64 s1.shape, .bool s1.pile, .int .i64 s1.speed, .int .i64 s1.slope] ∧ Blk w' (w3.heap.size + 1) 36 #[.int .i64 s2.size, .int .i64 s2.dens, .int .i64 s2.strong, .int .i64 s2.spin, .int .i64 s2.shape, .bool s2.pile, .int .i64 s2.speed, .int .i64 s2.slope] := ⟨_, rfl⟩
  have hS0 : ∀ w', S 0 w' ↔ (Blk w' w3.heap.size 36 #[.int .i64 s1.size, .int .i64 s1.dens, .int .i64 s1.strong, .int .i64 s1.spin, .int .i64 s1.shape, .bool s1.pile, .int .i64 s1.speed, .int .i64 s1.slope] ∧ Blk w' (w3.heap.size + 1) 36 #[.int .i64 s2.size, .int .i64 s2.dens, .int .i64 s2.strong, .int .i64 s2.spin, .int .i64 s2.shape, .bool s2.pile, .int .i64 s2.speed, .int .i64 s2.slope]) := fun w' => by rw [hS]
  clear hS
  have cx := fun (x : Ev (S 0)) i => ((hS0 _).1 x.h).1.cell i
  have cy := fun (x : Ev (S 0)) i => ((hS0 _).1 x.h).2.cell i
  replace S1 := S1.drew
  replace S2 := S2.drew
  replace K4 := K4.drew
  have hevT := ev_true
  refine wp_region_ord S [(0, 1), (2, 0), (3, 1), (1, 2), (4, 0), (5, 0), (6, 1), (8, 0), (9, 1), (7, 2), (10, 0), (11, 0)] [] (by kernel_rfl) (by kernel_rfl) ((hS0 _).2 ⟨S1, S2⟩) ?_
  intro _hev
  iterate 3 (first | (refine wpOrd_v rfl rfl ?_; intro K hK; go_big_quiet_op; go_big_quiet_on) | (refine wpOrd_q rfl rfl ?_; intro K hK; go_big_quiet_op; go_big_quiet_on) | refine wpOrd_s (by decide) rfl rfl ?_)
  refine wpOrd_l rfl rfl ?_; intro K hK
  go_step
  refine (blast_Holds_any s1 _ (hb.kpN K4)).mono ?_
  rintro e w5 ⟨⟨n, rfl, hn1⟩, k5⟩
  have hn1 : n = s1.strong := by
    rcases hn1 with ⟨_, h⟩ | ⟨h, _⟩
    · rw [h, h1.out]
    · exact absurd ok1.out h
  subst hn1
  have S15 := S1.kp k5 S1.lt (by simp)
  have S25 := S2.kp k5 S2.lt (by simp)
  have K5 := K4.thenN k5 (Nat.le_refl _)
  refine hK _ _ ((hS0 _).2 ⟨S15, S25⟩) ?_
  clear hK K k5 S1 S2 K4
  iterate 5 (first | (refine wpOrd_v rfl rfl ?_; intro K hK; go_big_quiet_op; go_big_quiet_on) | (refine wpOrd_q rfl rfl ?_; intro K hK; go_big_quiet_op; go_big_quiet_on) | refine wpOrd_s (by decide) rfl rfl ?_)
  refine wpOrd_l rfl rfl ?_; intro K hK
  go_step
  refine (blast_Holds_any s2 _ (hb.kpN K5)).mono ?_
  rintro e w6 ⟨⟨n, rfl, hn2⟩, k6⟩
  have hn2 : n = s1.strong := by
    rcases hn2 with ⟨_, h⟩ | ⟨h, _⟩
    · rw [h, h2.out]
    · exact absurd ok2.out h
  subst hn2
  have S16 := S15.kp k6 S15.lt (by simp)
  have S26 := S25.kp k6 S25.lt (by simp)
  have K6 := K5.thenN k6 (Nat.le_refl _)
  refine hK _ _ ((hS0 _).2 ⟨S16, S26⟩) ?_
  clear hK K k6 S15 S25 K5
  iterate 2 (first | (refine wpOrd_v rfl rfl ?_; intro K hK; go_big_quiet_op; go_big_quiet_on) | (refine wpOrd_q rfl rfl ?_; intro K hK; go_big_quiet_op; go_big_quiet_on) | refine wpOrd_s (by decide) rfl rfl ?_)
  refine wpOrd_nil ?_
  clear hevT _hev
  have c6 := fun i => S26.cell i
  have f6 := fun i => S26.frozen i
  obtain ⟨s3, e3⟩ : ∃ t : Stone, t = ⟨s2.size, s2.dens, s2.strong, 1000, s2.shape, s2.pile, s2.speed, s2.slope⟩ := ⟨_, rfl⟩
  have S3 : Blk (w6.setCell ⟨w3.heap.size + 1, 3, none⟩ (.int .i64 1000)) (w3.heap.size + 1) 36 #[.int .i64 s3.size, .int .i64 s3.dens, .int .i64 s3.strong, .int .i64 s3.spin, .int .i64 s3.shape, .bool s3.pile, .int .i64 s3.speed, .int .i64 s3.slope] := by
    rw [e3]; exact S26.set_ 3 (.int .i64 1000)
  have K7 := K6.setNew (p := ⟨w3.heap.size + 1, 3, none⟩) (by show w.heap.size ≤ w3.heap.size + 1; omega) (.int .i64 1000)
  have ok3 : StoneOk s3 := by rw [e3]; exact ⟨ok2.out.size, ok2.out.dens, ok2.out.strong, by simp, ok2.out.shape, ok2.out.speed, ok2.out.slope⟩
  have h30 : holdOf s3.strong s3.spin s3.pile = 0 := by rw [e3, h3.out]; show s2.strong * (1000 - 1000) / 1000 = 0; simp
  replace ok3 := Lib.hid ok3
  replace h30 := Lib.hid h30
  clear e3 K6 S16
  go_wp2_with fail
  refine (kit_Mod64_any en 1152921504606846976 (by omega) _).mono ?_
  rintro e w8 ⟨rfl, k8⟩
  obtain ⟨E, hE⟩ := Int.eq_ofNat_of_zero_le (Int.emod_nonneg en (show (1152921504606846976 : Int) ≠ 0 by omega))
  have hE2 : E < 1152921504606846976 := by have := Int.emod_lt_of_pos en (show (0 : Int) < 1152921504606846976 by omega); omega
  rw [hE]
  have S38 := S3.kp k8 S3.lt (by simp)
  have K8 := K7.thenN k8 (Nat.le_refl _)
  clear k8 S3 K7 c6 f6 S26 hE
  go_wp2_with fail
  refine (blast_Crater_any E (by omega) _).mono ?_
  rintro e w9 ⟨⟨c, rfl, hc⟩, k9⟩
  have S39 := S38.kp k9 S38.lt (by simp)
  have K9 := K8.thenN k9 (Nat.le_refl _)
  have c9 := fun i => S39.cell i
  replace hE2 := Lib.hid hE2
  replace hc := Lib.hid hc
  clear k9 S38 K8
  go_wp2_with fail
  refine (blast_Holds_any s3 _ (hb.kpN K9)).mono ?_
  rintro e w10 ⟨⟨n, rfl, hn3⟩, k10⟩
  have hn3 : n = 0 := by
    rcases hn3 with ⟨_, h⟩ | ⟨h, _⟩
    · rw [h, h30.out]
    · exact absurd ok3.out h
  subst hn3
  have K10 := K9.thenN k10 (Nat.le_refl _)
  clear k10 K9 c9 S39
  obtain ⟨p2, p3, p4, q2, q3, q4, f1, f2, f3, f4, f5, f6, f7, f8, f9⟩ := crater_val hE2.out hc.out
  go_wp2_with fail
  refine (awake_any _ (hb.kpN K10)).mono ?_
  rintro e w11 ⟨rfl, k11⟩
  have K11 := K10.thenN k11 (Nat.le_refl _)
  clear k11 K10
  go_wp2
  exact bodyPost_ret (v := .bool true) (by simp [results, Tryd.results4, go_sem]) rfl ⟨rfl, K11⟩
end Go.Proofs.YtdiigflbohbndaaDoor
