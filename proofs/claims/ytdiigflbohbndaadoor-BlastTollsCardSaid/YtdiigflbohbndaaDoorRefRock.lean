/- The reference: limits, spans, numbers, CheckStone, CheckRock, CheckAir, Mass, Holds. -/
import Derived.Test.YtdiigflbohbndaaDoorRock
import Derived.Test.YtdiigflbohbndaaDoorAwake
namespace Go.Proofs.YtdiigflbohbndaaDoor
open Go.RowKit

def encSp (x : Span) : List Value := [.int .i64 x.lo, .int .i64 x.hi]
def limL : List Span := [⟨1, 1000⟩, ⟨1, 9000⟩, ⟨0, 1099511627776⟩, ⟨0, 1000⟩, ⟨500, 2000⟩, ⟨1, 8000⟩, ⟨1, 1000⟩]
theorem limL_at (i : Nat) (hi : i < limL.length) : limL[i] = ⟨bLo i, bHi i⟩ := by
  rcases i with _ | _ | _ | _ | _ | _ | _ | i
  all_goals first | rfl | (simp [limL] at hi; omega)
def spansL (r : Rock) (f : Fall) : List Span := [r.size, r.dens, r.strong, r.spin, r.shape, f.speed, f.slope]
theorem spansL_at (r : Rock) (f : Fall) (i : Nat) (hi : i < (spansL r f).length) : (spansL r f)[i] = rockSpan r f i := by
  rcases i with _ | _ | _ | _ | _ | _ | _ | i
  all_goals first | rfl | (simp [spansL] at hi; omega)
def numL (s : Stone) : List Int := [s.size, s.dens, s.strong, s.spin, s.shape, s.speed, s.slope]
theorem numL_at (s : Stone) (i : Nat) (hi : i < (numL s).length) : (numL s)[i] = stoneNum s i := by
  rcases i with _ | _ | _ | _ | _ | _ | _ | i
  all_goals first | rfl | (simp [numL] at hi; omega)
set_option maxHeartbeats 400000 in
theorem ref_limits_any (w : World) : Calls Tryd.prog 86 #[] w fun e w' => (∃ b, e = .returned (.slice (some ⟨b, 0, none⟩) 7 7) ∧ Rd none w' 2 encSp (some ⟨b, 0, none⟩) 7 limL) ∧ Kp w.heap.size none w w' := by
  have K0 := (Kp.refl w.heap.size none w).alloc (Nat.le_refl _) (.cells (limL.flatMap encSp).toArray 120)
  have B0 := Blk.new w 120 (limL.flatMap encSp).toArray
  have R0 := Rd.of_blk (enc := encSp) (sz := 2) limL (fun _ => rfl) (by simp) B0 none (by simp)
  go_enter Tryd.func86, Tryd.ntmps86
  go_wp2
  exact bodyPost_ret (v := .slice (some ⟨w.heap.size, 0, none⟩) 7 7) (by simp [results, Tryd.results86, go_sem]) rfl ⟨⟨_, rfl, R0⟩, K0⟩
set_option maxHeartbeats 400000 in
theorem ref_numbers_any (s : Stone) (w : World) : Calls Tryd.prog 89 #[.agg #[.int .i64 s.size, .int .i64 s.dens, .int .i64 s.strong, .int .i64 s.spin, .int .i64 s.shape, .bool s.pile, .int .i64 s.speed, .int .i64 s.slope]] w fun e w' => (∃ b, e = .returned (.slice (some ⟨b, 0, none⟩) 7 7) ∧ Rd none w' 1 encI (some ⟨b, 0, none⟩) 7 (numL s)) ∧ Kp w.heap.size none w w' := by
  have K0 := ((Kp.refl w.heap.size none w).alloc (Nat.le_refl _) (.cells #[.int .i64 s.size, .int .i64 s.dens, .int .i64 s.strong, .int .i64 s.spin, .int .i64 s.shape, .bool s.pile, .int .i64 s.speed, .int .i64 s.slope] 36)).alloc (by simp) (.cells ((numL s).flatMap encI).toArray 2)
  have B0 := Blk.newAt (w.alloc (.cells #[.int .i64 s.size, .int .i64 s.dens, .int .i64 s.strong, .int .i64 s.spin, .int .i64 s.shape, .bool s.pile, .int .i64 s.speed, .int .i64 s.slope] 36)) 2 ((numL s).flatMap encI).toArray (n := w.heap.size + 1) (by simp)
  have R0 := Rd.of_blk (enc := encI) (sz := 1) (numL s) (fun _ => rfl) (by simp) B0 none (by simp)
  go_enter Tryd.func89, Tryd.ntmps89
  go_wp2
  exact bodyPost_ret (v := .slice (some ⟨w.heap.size + 1, 0, none⟩) 7 7) (by simp [results, Tryd.results89, go_sem]) rfl ⟨⟨_, rfl, R0⟩, K0⟩
set_option maxHeartbeats 400000 in
theorem ref_spans_any (r : Rock) (f : Fall) (w : World) : Calls Tryd.prog 85 #[.agg #[.int .i64 r.size.lo, .int .i64 r.size.hi, .int .i64 r.dens.lo, .int .i64 r.dens.hi, .int .i64 r.strong.lo, .int .i64 r.strong.hi, .int .i64 r.spin.lo, .int .i64 r.spin.hi, .int .i64 r.shape.lo, .int .i64 r.shape.hi, .bool r.pile], .agg #[.int .i64 f.speed.lo, .int .i64 f.speed.hi, .int .i64 f.slope.lo, .int .i64 f.slope.hi]] w fun e w' => (∃ b, e = .returned (.slice (some ⟨b, 0, none⟩) 7 7) ∧ Rd none w' 2 encSp (some ⟨b, 0, none⟩) 7 (spansL r f)) ∧ Kp w.heap.size none w w' := by
  have K0 := (((Kp.refl w.heap.size none w).alloc (Nat.le_refl _) (.cells #[.int .i64 r.size.lo, .int .i64 r.size.hi, .int .i64 r.dens.lo, .int .i64 r.dens.hi, .int .i64 r.strong.lo, .int .i64 r.strong.hi, .int .i64 r.spin.lo, .int .i64 r.spin.hi, .int .i64 r.shape.lo, .int .i64 r.shape.hi, .bool r.pile] 28)).alloc (by simp) (.cells #[.int .i64 f.speed.lo, .int .i64 f.speed.hi, .int .i64 f.slope.lo, .int .i64 f.slope.hi] 30)).alloc (by simp; omega) (.cells ((spansL r f).flatMap encSp).toArray 26)
  have B0 := Blk.newAt ((w.alloc (.cells #[.int .i64 r.size.lo, .int .i64 r.size.hi, .int .i64 r.dens.lo, .int .i64 r.dens.hi, .int .i64 r.strong.lo, .int .i64 r.strong.hi, .int .i64 r.spin.lo, .int .i64 r.spin.hi, .int .i64 r.shape.lo, .int .i64 r.shape.hi, .bool r.pile] 28)).alloc (.cells #[.int .i64 f.speed.lo, .int .i64 f.speed.hi, .int .i64 f.slope.lo, .int .i64 f.slope.hi] 30)) 26 ((spansL r f).flatMap encSp).toArray (n := w.heap.size + 1 + 1) (by simp)
  have R0 := Rd.of_blk (enc := encSp) (sz := 2) (spansL r f) (fun _ => rfl) (by simp) B0 none (by simp)
  go_enter Tryd.func85, Tryd.ntmps85
  go_wp2
  exact bodyPost_ret (v := .slice (some ⟨w.heap.size + 1 + 1, 0, none⟩) 7 7) (by simp [results, Tryd.results85, go_sem]) rfl ⟨⟨_, rfl, R0⟩, K0⟩
set_option maxRecDepth 100000 in
set_option maxHeartbeats 1000000 in
theorem ref_CheckStone_any (s : Stone) (w : World) :
    Calls Tryd.prog 34 #[.agg #[.int .i64 s.size, .int .i64 s.dens, .int .i64 s.strong, .int .i64 s.spin, .int .i64 s.shape, .bool s.pile, .int .i64 s.speed, .int .i64 s.slope]] w fun e w' => (∃ n, e = .returned (.int .i64 n) ∧ StoneChk s n) ∧ Kp w.heap.size none w w' := by
  have K0 := (Kp.refl w.heap.size none w).alloc (Nat.le_refl _) (.cells #[.int .i64 s.size, .int .i64 s.dens, .int .i64 s.strong, .int .i64 s.spin, .int .i64 s.shape, .bool s.pile, .int .i64 s.speed, .int .i64 s.slope] 36)
  go_enter Tryd.func34, Tryd.ntmps34
  go_wp2_with fail
  refine (ref_numbers_any s _).mono ?_
  rintro e w1 ⟨⟨b1, rfl, R1⟩, k1⟩
  have K1 := K0.thenN k1 (by simp)
  clear k1 K0
  go_wp2_with fail
  refine (ref_limits_any _).mono ?_
  rintro e w2 ⟨⟨b2, rfl, R2⟩, k2⟩
  have K2 := K1.thenN k2 (Nat.le_refl _)
  replace R1 := R1.kpN k2
  clear k2 K1
  go_wp2_with fail
  go_loopw [5] (fun v wr => ChkAt (stoneNum s) w2 v wr) (fun v _ => 7 - (intOf v).toNat)
  case atStart => exact ⟨0, rfl, by omega, fun j hj => absurd hj (by omega), Kp.refl _ _ _⟩
  case round =>
    obtain ⟨i, rfl, hi, hj, KK⟩ := hrel
    have K3 := K2.thenN KK (Nat.le_refl _)
    by_cases h7 : i < 7
    · obtain ⟨_, _, e1, hb1, -, hc1⟩ := (R1.kpN KK).at_ (by omega)
      obtain ⟨_, _, e2, hb2, -, hc2⟩ := (R2.kpN KK).at_ (by omega)
      injection e1 with e1; injection e1 with e1 e3
      injection e2 with e2; injection e2 with e2 e4
      subst e1 e2 e3 e4
      have hL : i < (numL s).length := h7
      have hM : i < limL.length := h7
      have cn := hc1 i hL 0 (.int .i64 (stoneNum s i)) (by rw [numL_at s i]; rfl)
      have cl := hc2 i hM 0 (.int .i64 (bLo i)) (by rw [limL_at i]; rfl)
      have ch := hc2 i hM 1 (.int .i64 (bHi i)) (by rw [limL_at i]; rfl)
      simp only [Nat.zero_add, Nat.mul_one, Nat.add_zero] at cn cl ch
      have hst : (bLo i ≤ stoneNum s i ∧ stoneNum s i ≤ bHi i) → ∀ j, j < i + 1 → bLo j ≤ stoneNum s j ∧ stoneNum s j ≤ bHi j := fun h j hj' => by
        rcases Nat.lt_or_ge j i with h1 | h1
        · exact hj j h1
        · rw [show j = i from by omega]; exact h
      have hbad : btw (stoneNum s i) (bLo i) (bHi i) = false → ¬ StoneOk s := fun h k => by
        have := (btw_true _ _ _).2 ((stoneOk_iff s).1 k i h7)
        rw [h] at this; cases this
      replace hst := Lib.hid hst
      replace hbad := Lib.hid hbad
      generalize stoneNum s i = n at cn hst hbad
      generalize bLo i = lo at cl hst hbad
      generalize bHi i = hi2 at ch hst hbad
      have h7' : (i : Int) < 7 := by omega
      replace R1 := Lib.hid R1
      replace R2 := Lib.hid R2
      replace hb1 := Lib.hid hb1
      replace hb2 := Lib.hid hb2
      clear hi hj hc1 hc2 hL hM
      replace h7 := Lib.hid h7
      go_wp2_with fail
      obtain ⟨S, hS⟩ : ∃ S : Nat → World → Prop, S = fun _ w' => w'.cell? ⟨b1, i, none⟩ = some (.int .i64 n) ∧ w'.cell? ⟨b2, i * 2, none⟩ = some (.int .i64 lo) ∧ w'.cell? ⟨b2, i * 2 + 1, none⟩ = some (.int .i64 hi2) := ⟨_, rfl⟩
      have hS0 : ∀ w', S 0 w' ↔ (w'.cell? ⟨b1, i, none⟩ = some (.int .i64 n) ∧ w'.cell? ⟨b2, i * 2, none⟩ = some (.int .i64 lo) ∧ w'.cell? ⟨b2, i * 2 + 1, none⟩ = some (.int .i64 hi2)) := fun w' => by rw [hS]
      clear hS
      have cx := fun (x : Ev (S 0)) => ((hS0 _).1 x.h).1
      have cy := fun (x : Ev (S 0)) => ((hS0 _).1 x.h).2.1
      have cz := fun (x : Ev (S 0)) => ((hS0 _).1 x.h).2.2
      have hevT := ev_true
      refine wp_region_ord S [(0, 0), (1, 0), (2, 0), (3, 1), (4, 0), (5, 0), (6, 0), (7, 0), (8, 1), (9, 0), (10, 0), (11, 0), (12, 0), (13, 1), (14, 2), (15, 0)] [] (by kernel_rfl) (by kernel_rfl) ((hS0 _).2 ⟨cn, cl, ch⟩) ?_
      intro _hev
      iterate 14 (first | (refine wpOrd_v rfl rfl ?_; intro K hK; go_big_quiet_op; go_big_quiet_on) | (refine wpOrd_q rfl rfl ?_; intro K hK; go_big_quiet_op; go_big_quiet_on) | refine wpOrd_s (by decide) rfl rfl ?_)
      refine wpOrd_l rfl rfl ?_; intro K hK
      go_step
      refine (bolideref07_between_any n lo hi2 _).mono ?_
      rintro e w4 ⟨rfl, hk4⟩
      have K4 := K3.drew.thenN hk4 (Nat.le_refl _)
      refine hK _ _ ((hS0 _).2 ⟨(hk4.cell _ _ hb1.out (by simp)).trans cn, (hk4.cell _ _ hb2.out (by simp)).trans cl, (hk4.cell _ _ hb2.out (by simp)).trans ch⟩) ?_
      clear hK K
      iterate 1 (first | (refine wpOrd_v rfl rfl ?_; intro K hK; go_big_quiet_op; go_big_quiet_on) | (refine wpOrd_q rfl rfl ?_; intro K hK; go_big_quiet_op; go_big_quiet_on) | refine wpOrd_s (by decide) rfl rfl ?_)
      refine wpOrd_nil ?_
      clear hevT _hev
      cases hbt : btw n lo hi2
      · have hno := Lib.hid (hbad.out hbt)
        go_wp2
        exact bodyPost_ret (v := .int .i64 2) (by simp [results, Tryd.results34, go_sem]) rfl ⟨⟨2, rfl, .inr ⟨rfl, hno.out⟩⟩, K4⟩
      · have hst' := Lib.hid (hst.out ((btw_true n lo hi2).1 hbt))
        have KK4 := KK.drew.thenN hk4 (Nat.le_refl _)
        go_wp2
        go_roundw
        case rel => exact ⟨i + 1, rfl, h7.out, hst'.out, KK4⟩
        case measure => have := h7.out; simp [intOf]; omega
    · have he : i = 7 := by omega
      subst he
      have hok := Lib.hid hj
      clear hj hi h7
      go_wp2
      exact bodyPost_ret (v := .int .i64 0) (by simp [results, Tryd.results34, go_sem]) rfl ⟨⟨0, rfl, .inl ⟨rfl, (stoneOk_iff s).2 hok.out⟩⟩, K3⟩
end Go.Proofs.YtdiigflbohbndaaDoor
