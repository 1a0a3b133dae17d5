/- The reference: CheckRock, Mass, Holds, CheckAir. -/
import Derived.Test.YtdiigflbohbndaaDoorRefRock
namespace Go.Proofs.YtdiigflbohbndaaDoor
open Go.RowKit

set_option maxHeartbeats 400000 in
theorem ref_Mass_any (s : Stone) (w : World) :
    Calls Tryd.prog 38 #[.agg #[.int .i64 s.size, .int .i64 s.dens, .int .i64 s.strong, .int .i64 s.spin, .int .i64 s.shape, .bool s.pile, .int .i64 s.speed, .int .i64 s.slope]] w fun e w' => (∃ n, e = .returned (.int .i64 n) ∧ ((StoneOk s ∧ n = massOf s.size s.dens) ∨ (¬ StoneOk s ∧ n = 0))) ∧ Kp w.heap.size none w w' := by
  have K0 := (Kp.refl w.heap.size none w).alloc (Nat.le_refl _) (.cells #[.int .i64 s.size, .int .i64 s.dens, .int .i64 s.strong, .int .i64 s.spin, .int .i64 s.shape, .bool s.pile, .int .i64 s.speed, .int .i64 s.slope] 36)
  have B0 := Blk.new w 36 #[.int .i64 s.size, .int .i64 s.dens, .int .i64 s.strong, .int .i64 s.spin, .int .i64 s.shape, .bool s.pile, .int .i64 s.speed, .int .i64 s.slope]
  go_enter Tryd.func38, Tryd.ntmps38
  go_wp2_with fail
  refine (ref_CheckStone_any s _).mono ?_
  rintro e w1 ⟨⟨n, rfl, hn⟩, k1⟩
  have K1 := K0.thenN k1 (by simp)
  have B1 := B0.kpN k1
  have c1 := fun i => B1.cell i
  clear k1 B0 K0
  rcases hn with ⟨rfl, hs⟩ | ⟨rfl, hs⟩
  · replace hs := Lib.hid hs
    go_wp2_with fail
    refine (ref_mass_any s.size s.dens hs.out.size hs.out.dens _).mono ?_
    rintro e w2 ⟨rfl, k2⟩
    have K2 := K1.thenN k2 (Nat.le_refl _)
    clear c1 B1
    go_wp2
    exact bodyPost_ret (v := .int .i64 (massOf s.size s.dens)) (by simp [results, Tryd.results38, go_sem]) rfl ⟨⟨_, rfl, .inl ⟨hs.out, rfl⟩⟩, K2⟩
  · replace hs := Lib.hid hs
    go_wp2
    exact bodyPost_ret (v := .int .i64 0) (by simp [results, Tryd.results38, go_sem]) rfl ⟨⟨0, rfl, .inr ⟨hs.out, rfl⟩⟩, K1⟩
set_option maxHeartbeats 400000 in
theorem ref_Holds_any (s : Stone) (w : World) :
    Calls Tryd.prog 39 #[.agg #[.int .i64 s.size, .int .i64 s.dens, .int .i64 s.strong, .int .i64 s.spin, .int .i64 s.shape, .bool s.pile, .int .i64 s.speed, .int .i64 s.slope]] w fun e w' => (∃ n, e = .returned (.int .i64 n) ∧ ((StoneOk s ∧ n = holdOf s.strong s.spin s.pile) ∨ (¬ StoneOk s ∧ n = 0))) ∧ Kp w.heap.size none w w' := by
  have K0 := (Kp.refl w.heap.size none w).alloc (Nat.le_refl _) (.cells #[.int .i64 s.size, .int .i64 s.dens, .int .i64 s.strong, .int .i64 s.spin, .int .i64 s.shape, .bool s.pile, .int .i64 s.speed, .int .i64 s.slope] 36)
  have B0 := Blk.new w 36 #[.int .i64 s.size, .int .i64 s.dens, .int .i64 s.strong, .int .i64 s.spin, .int .i64 s.shape, .bool s.pile, .int .i64 s.speed, .int .i64 s.slope]
  go_enter Tryd.func39, Tryd.ntmps39
  go_wp2_with fail
  refine (ref_CheckStone_any s _).mono ?_
  rintro e w1 ⟨⟨n, rfl, hn⟩, k1⟩
  have K1 := K0.thenN k1 (by simp)
  have B1 := B0.kpN k1
  have c1 := fun i => B1.cell i
  clear k1 B0 K0
  rcases hn with ⟨rfl, hs⟩ | ⟨rfl, hs⟩
  · replace hs := Lib.hid hs
    go_wp2_with fail
    refine (ref_holds_any s.strong s.spin s.pile hs.out.strong hs.out.spin _).mono ?_
    rintro e w2 ⟨rfl, k2⟩
    have K2 := K1.thenN k2 (Nat.le_refl _)
    clear c1 B1
    go_wp2
    exact bodyPost_ret (v := .int .i64 (holdOf s.strong s.spin s.pile)) (by simp [results, Tryd.results39, go_sem]) rfl ⟨⟨_, rfl, .inl ⟨hs.out, rfl⟩⟩, K2⟩
  · replace hs := Lib.hid hs
    go_wp2
    exact bodyPost_ret (v := .int .i64 0) (by simp [results, Tryd.results39, go_sem]) rfl ⟨⟨0, rfl, .inr ⟨hs.out, rfl⟩⟩, K1⟩
set_option maxRecDepth 100000 in
set_option maxHeartbeats 400000 in
theorem ref_CheckAir_any (A : Option Addr) (cap : Nat) (ls : List Layer) (w : World) (h : Rd none w 2 encLayer A ls.length ls) :
    Calls Tryd.prog 41 #[.slice A ls.length cap] w fun e w' => (∃ n, e = .returned (.int .i64 n) ∧ AirChk ls n) ∧ Kp w.heap.size none w w' := by
  go_enter Tryd.func41, Tryd.ntmps41
  rcases Nat.lt_or_ge 32 ls.length with hl | hl
  · have hl' : (32 : Int) < (ls.length : Int) := by omega
    have hc : AirChk ls 8 := .inr (.inl ⟨rfl, hl⟩)
    replace hc := Lib.hid hc
    clear hl
    go_wp2
    exact bodyPost_ret (v := .int .i64 8) (by simp [results, Tryd.results41, go_sem]) rfl ⟨⟨8, rfl, hc.out⟩, Kp.refl _ _ _⟩
  · have hl' : ¬ (32 : Int) < (ls.length : Int) := by omega
    go_wp2_with fail
    go_loopw [3] (fun v wr => AirAt ls w v wr) (fun v _ => ls.length - (intOf v).toNat)
    case atStart => exact ⟨0, rfl, by omega, fun j _ hj => absurd hj (by omega), Kp.refl _ _ _⟩
    case round =>
      obtain ⟨i, rfl, hi, hj, KK⟩ := hrel
      by_cases h7 : i < ls.length
      · obtain ⟨b, o, rfl, hb, -, hc⟩ := (h.kpN KK).at_ (by omega)
        have c0 : wr.cell? ⟨b, o + i * 2, none⟩ = some (.int .i64 ls[i].thick) := hc i h7 0 _ rfl
        have c1 : wr.cell? ⟨b, o + i * 2 + 1, none⟩ = some (.int .i64 ls[i].dens) := hc i h7 1 _ rfl
        have hi' : (i : Int) < (ls.length : Int) := by omega
        have hst : LayOk ls[i] → ∀ j (hj : j < ls.length), j < i + 1 → LayOk ls[j] := fun h j hjl hj' => by
          rcases Nat.lt_or_ge j i with h1 | h1
          · exact hj j hjl h1
          · have : j = i := by omega
            subst this; exact h
        have hbad : ¬ LayOk ls[i] → AirChk ls 2 := fun h => .inr (.inr ⟨rfl, hl, fun k => h (k.2 i h7)⟩)
        generalize ls[i] = x at c0 c1 hst hbad
        replace hst := Lib.hid hst
        replace hbad := Lib.hid hbad
        replace h := Lib.hid h
        clear hj hc hl hi
        replace h7 := Lib.hid h7
        go_wp2_with fail
        refine (bolideref07_between_any _ _ _ _).mono ?_
        rintro e w2 ⟨rfl, k2⟩
        have K2 := KK.thenN k2 (Nat.le_refl _)
        have d1 : w2.cell? ⟨b, o + i * 2 + 1, none⟩ = some (.int .i64 x.dens) := (k2.cell _ _ hb (by simp)).trans c1
        clear c0 c1
        cases hb1 : btw x.thick 1 1000
        · have hno := Lib.hid (hbad.out (fun k => by rw [((layOk_iff x).1 k).1] at hb1; cases hb1))
          clear k2
          go_wp2
          exact bodyPost_ret (v := .int .i64 2) (by simp [results, Tryd.results41, go_sem]) rfl ⟨⟨2, rfl, hno.out⟩, K2⟩
        · clear k2
          go_wp2_with fail
          refine (bolideref07_between_any _ _ _ _).mono ?_
          rintro e w3 ⟨rfl, k3⟩
          have K3 := K2.thenN k3 (Nat.le_refl _)
          clear k3 d1
          cases hb2 : btw x.dens 0 1000
          · have hno := Lib.hid (hbad.out (fun k => by rw [((layOk_iff x).1 k).2] at hb2; cases hb2))
            go_wp2
            exact bodyPost_ret (v := .int .i64 2) (by simp [results, Tryd.results41, go_sem]) rfl ⟨⟨2, rfl, hno.out⟩, K3⟩
          · have hok := Lib.hid (hst.out ((layOk_iff x).2 ⟨hb1, hb2⟩))
            go_wp2
            go_roundw
            case rel => exact ⟨i + 1, rfl, h7.out, hok.out, K3⟩
            case measure => have := h7.out; simp [intOf]; omega
      · have he : i = ls.length := by omega
        have hok : AirChk ls 0 := .inl ⟨rfl, hl, fun j hjl => hj j hjl (by omega)⟩
        replace hok := Lib.hid hok
        have hi' : ¬ (i : Int) < (ls.length : Int) := by omega
        clear hj hi h7 hl
        go_wp2
        exact bodyPost_ret (v := .int .i64 0) (by simp [results, Tryd.results41, go_sem]) rfl ⟨⟨0, rfl, hok.out⟩, KK⟩
def RefRockAt (r : Rock) (f : Fall) (w : World) (v : Value) (wr : World) : Prop := ∃ i : Nat, v = .int .i64 i ∧ i ≤ 7 ∧ (∀ j, j < i → rockErr r f j = none) ∧ Kp w.heap.size none w wr
set_option maxRecDepth 100000 in
set_option maxHeartbeats 1000000 in
theorem ref_CheckRock_any (r : Rock) (f : Fall) (w : World) :
    Calls Tryd.prog 32 #[.agg #[.int .i64 r.size.lo, .int .i64 r.size.hi, .int .i64 r.dens.lo, .int .i64 r.dens.hi, .int .i64 r.strong.lo, .int .i64 r.strong.hi, .int .i64 r.spin.lo, .int .i64 r.spin.hi, .int .i64 r.shape.lo, .int .i64 r.shape.hi, .bool r.pile], .agg #[.int .i64 f.speed.lo, .int .i64 f.speed.hi, .int .i64 f.slope.lo, .int .i64 f.slope.hi]] w fun e w' => (∃ n, e = .returned (.int .i64 n) ∧ RockChk r f n) ∧ Kp w.heap.size none w w' := by
  have K0 := ((Kp.refl w.heap.size none w).alloc (Nat.le_refl _) (.cells #[.int .i64 r.size.lo, .int .i64 r.size.hi, .int .i64 r.dens.lo, .int .i64 r.dens.hi, .int .i64 r.strong.lo, .int .i64 r.strong.hi, .int .i64 r.spin.lo, .int .i64 r.spin.hi, .int .i64 r.shape.lo, .int .i64 r.shape.hi, .bool r.pile] 28)).alloc (by simp) (.cells #[.int .i64 f.speed.lo, .int .i64 f.speed.hi, .int .i64 f.slope.lo, .int .i64 f.slope.hi] 30)
  go_enter Tryd.func32, Tryd.ntmps32
  go_wp2_with fail
  refine (ref_spans_any r f _).mono ?_
  rintro e w1 ⟨⟨b1, rfl, R1⟩, k1⟩
  have K1 := K0.then_ k1 (by simp <;> omega)
  clear k1 K0
  go_wp2_with fail
  refine (ref_limits_any _).mono ?_
  rintro e w2 ⟨⟨b2, rfl, R2⟩, k2⟩
  have K2 := K1.thenN k2 (Nat.le_refl _)
  replace R1 := R1.kpN k2
  clear k2 K1
  go_wp2_with fail
  go_loopw [7] (fun v wr => RefRockAt r f w2 v wr) (fun v _ => 7 - (intOf v).toNat)
  case atStart => exact ⟨0, rfl, by omega, fun j hj => absurd hj (by omega), Kp.refl _ _ _⟩
  case round =>
    obtain ⟨i, rfl, hi, hj, KK⟩ := hrel
    have K3 := K2.thenN KK (Nat.le_refl _)
    by_cases h7 : i < 7
    · obtain ⟨_, _, e1, hb1, -, hc1⟩ := (R1.kpN KK).at_ (by omega)
      obtain ⟨_, _, e2, hb2, -, hc2⟩ := (R2.kpN KK).at_ (by omega)
      injection e1 with e1; injection e1 with e1 e3
      injection e2 with e2; injection e2 with e2 e4
      subst e1 e2 e3 e4
      have hL : i < (spansL r f).length := h7
      have hM : i < limL.length := h7
      have ca := hc1 i hL 0 (.int .i64 (rockSpan r f i).lo) (by rw [spansL_at r f i]; rfl)
      have cb := hc1 i hL 1 (.int .i64 (rockSpan r f i).hi) (by rw [spansL_at r f i]; rfl)
      have cl := hc2 i hM 0 (.int .i64 (bLo i)) (by rw [limL_at i]; rfl)
      have ch := hc2 i hM 1 (.int .i64 (bHi i)) (by rw [limL_at i]; rfl)
      simp only [Nat.zero_add, Nat.add_zero] at ca cb cl ch
      have hst : rockErr r f i = none → ∀ j, j < i + 1 → rockErr r f j = none := fun h j hj' => by
        rcases Nat.lt_or_ge j i with h1 | h1
        · exact hj j h1
        · rw [show j = i from by omega]; exact h
      have hbad : ∀ n, rockErr r f i = some n → RockChk r f n := fun n h => .inr ⟨i, h7, h, hj⟩
      have hre : rockErr r f i = if (rockSpan r f i).hi < (rockSpan r f i).lo then some 11 else if (rockSpan r f i).lo < bLo i ∨ bHi i < (rockSpan r f i).hi then some 2 else none := rfl
      generalize rockErr r f i = re at hst hbad hre
      generalize rockSpan r f i = sp at ca cb hre
      generalize bLo i = lo at cl hre
      generalize bHi i = hi2 at ch hre
      obtain ⟨a, b⟩ := sp
      simp only at ca cb hre
      have h7' : (i : Int) < 7 := by omega
      replace hst := Lib.hid hst
      replace hbad := Lib.hid hbad
      replace R1 := Lib.hid R1
      replace R2 := Lib.hid R2
      clear hi hj hc1 hc2 hb1 hb2 hL hM
      replace h7 := Lib.hid h7
      go_wp2_with fail
      obtain ⟨S, hS⟩ : ∃ S : Nat → World → Prop, S = fun _ w' => w'.cell? ⟨b1, i * 2, none⟩ = some (.int .i64 a) ∧ w'.cell? ⟨b1, i * 2 + 1, none⟩ = some (.int .i64 b) := ⟨_, rfl⟩
      have hS0 : ∀ w', S 0 w' ↔ (w'.cell? ⟨b1, i * 2, none⟩ = some (.int .i64 a) ∧ w'.cell? ⟨b1, i * 2 + 1, none⟩ = some (.int .i64 b)) := fun w' => by rw [hS]
      clear hS
      have cx := fun (x : Ev (S 0)) => ((hS0 _).1 x.h).1
      have cy := fun (x : Ev (S 0)) => ((hS0 _).1 x.h).2
      have hevT := ev_true
      refine wp_region_ord S [(0, 0), (1, 0), (2, 0), (3, 0), (4, 1), (5, 0), (6, 0), (7, 0), (8, 0), (9, 1), (10, 0)] [] (by kernel_rfl) (by kernel_rfl) ((hS0 _).2 ⟨ca, cb⟩) ?_
      intro _hev
      iterate 11 (first | (refine wpOrd_v rfl rfl ?_; intro K hK; go_big_quiet_op; go_big_quiet_on) | (refine wpOrd_q rfl rfl ?_; intro K hK; go_big_quiet_op; go_big_quiet_on) | refine wpOrd_s (by decide) rfl rfl ?_)
      refine wpOrd_nil ?_
      clear hevT _hev
      clear cx cy hS0 S
      replace K3 := K3.drew
      replace KK := KK.drew
      by_cases h1 : b < a
      · have hno := Lib.hid (hbad.out 11 (by rw [hre, if_pos h1]))
        clear hre
        go_wp2
        exact bodyPost_ret (v := .int .i64 11) (by simp [results, Tryd.results32, go_sem]) rfl ⟨⟨11, rfl, hno.out⟩, K3⟩
      · rw [if_neg h1] at hre
        by_cases h2 : a < lo
        · have hno := Lib.hid (hbad.out 2 (by rw [hre, if_pos (.inl h2)]))
          have d2 : (a < lo) = True := eq_true h2
          clear hre
          go_wp2_with fail
          obtain ⟨S, hS⟩ : ∃ S : Nat → World → Prop, S = fun _ w' => (w'.cell? ⟨b1, i * 2, none⟩ = some (.int .i64 a) ∧ w'.cell? ⟨b1, i * 2 + 1, none⟩ = some (.int .i64 b)) ∧ w'.cell? ⟨b2, i * 2, none⟩ = some (.int .i64 lo) ∧ w'.cell? ⟨b2, i * 2 + 1, none⟩ = some (.int .i64 hi2) := ⟨_, rfl⟩
          have hS0 : ∀ w', S 0 w' ↔ ((w'.cell? ⟨b1, i * 2, none⟩ = some (.int .i64 a) ∧ w'.cell? ⟨b1, i * 2 + 1, none⟩ = some (.int .i64 b)) ∧ w'.cell? ⟨b2, i * 2, none⟩ = some (.int .i64 lo) ∧ w'.cell? ⟨b2, i * 2 + 1, none⟩ = some (.int .i64 hi2)) := fun w' => by rw [hS]
          clear hS
          have cx := fun (x : Ev (S 0)) => ((hS0 _).1 x.h).1.1
          have cx2 := fun (x : Ev (S 0)) => ((hS0 _).1 x.h).1.2
          have cy := fun (x : Ev (S 0)) => ((hS0 _).1 x.h).2.1
          have cz := fun (x : Ev (S 0)) => ((hS0 _).1 x.h).2.2
          have hevT := ev_true
          refine wp_region_ord S [(0, 0), (1, 0), (2, 0), (3, 0), (4, 1), (5, 0), (6, 0), (7, 0), (8, 0), (9, 1), (10, 0), (11, 0), (12, 0), (13, 0), (14, 0), (15, 0), (16, 1), (17, 0), (18, 0), (19, 0), (20, 0), (21, 1), (22, 0), (23, 0)] [] (by kernel_rfl) (by kernel_rfl) ((hS0 _).2 ⟨⟨ca, cb⟩, cl, ch⟩) ?_
          intro _hev
          first | (refine wpOrd_v rfl rfl ?_; intro K hK; go_big_quiet_op; go_big_quiet_on) | (refine wpOrd_q rfl rfl ?_; intro K hK; go_big_quiet_op; go_big_quiet_on)
          first | (refine wpOrd_v rfl rfl ?_; intro K hK; go_big_quiet_op; go_big_quiet_on) | (refine wpOrd_q rfl rfl ?_; intro K hK; go_big_quiet_op; go_big_quiet_on)
          first | (refine wpOrd_v rfl rfl ?_; intro K hK; go_big_quiet_op; go_big_quiet_on) | (refine wpOrd_q rfl rfl ?_; intro K hK; go_big_quiet_op; go_big_quiet_on)
          first | (refine wpOrd_v rfl rfl ?_; intro K hK; go_big_quiet_op; go_big_quiet_on) | (refine wpOrd_q rfl rfl ?_; intro K hK; go_big_quiet_op; go_big_quiet_on)
          first | (refine wpOrd_v rfl rfl ?_; intro K hK; go_big_quiet_op; go_big_quiet_on) | (refine wpOrd_q rfl rfl ?_; intro K hK; go_big_quiet_op; go_big_quiet_on)
          first | (refine wpOrd_v rfl rfl ?_; intro K hK; go_big_quiet_op; go_big_quiet_on) | (refine wpOrd_q rfl rfl ?_; intro K hK; go_big_quiet_op; go_big_quiet_on)
          first | (refine wpOrd_v rfl rfl ?_; intro K hK; go_big_quiet_op; go_big_quiet_on) | (refine wpOrd_q rfl rfl ?_; intro K hK; go_big_quiet_op; go_big_quiet_on)
          first | (refine wpOrd_v rfl rfl ?_; intro K hK; go_big_quiet_op; go_big_quiet_on) | (refine wpOrd_q rfl rfl ?_; intro K hK; go_big_quiet_op; go_big_quiet_on)
          first | (refine wpOrd_v rfl rfl ?_; intro K hK; go_big_quiet_op; go_big_quiet_on) | (refine wpOrd_q rfl rfl ?_; intro K hK; go_big_quiet_op; go_big_quiet_on)
          first | (refine wpOrd_v rfl rfl ?_; intro K hK; go_big_quiet_op; go_big_quiet_on) | (refine wpOrd_q rfl rfl ?_; intro K hK; go_big_quiet_op; go_big_quiet_on)
          first | (refine wpOrd_v rfl rfl ?_; intro K hK; go_big_quiet_op; go_big_quiet_on) | (refine wpOrd_q rfl rfl ?_; intro K hK; go_big_quiet_op; go_big_quiet_on)
          first | (refine wpOrd_v rfl rfl ?_; intro K hK; go_big_quiet_op; go_big_quiet_on) | (refine wpOrd_q rfl rfl ?_; intro K hK; go_big_quiet_op; go_big_quiet_on)
          refine wpOrd_s2 (by decide) rfl rfl rfl ?_; intro K hK; go_big_quiet_op; go_big_quiet_on
          refine wpOrd_s2 (by decide) rfl rfl rfl ?_; intro K hK; go_big_quiet_op; go_big_quiet_on
          refine wpOrd_s2 (by decide) rfl rfl rfl ?_; intro K hK; go_big_quiet_op; go_big_quiet_on
          refine wpOrd_s2 (by decide) rfl rfl rfl ?_; intro K hK; go_big_quiet_op; go_big_quiet_on
          refine wpOrd_s2 (by decide) rfl rfl rfl ?_; intro K hK; go_big_quiet_op; go_big_quiet_on
          refine wpOrd_s2 (by decide) rfl rfl rfl ?_; intro K hK; go_big_quiet_op; go_big_quiet_on
          refine wpOrd_s2 (by decide) rfl rfl rfl ?_; intro K hK; go_big_quiet_op; go_big_quiet_on
          refine wpOrd_s2 (by decide) rfl rfl rfl ?_; intro K hK; go_big_quiet_op; go_big_quiet_on
          refine wpOrd_s2 (by decide) rfl rfl rfl ?_; intro K hK; go_big_quiet_op; go_big_quiet_on
          refine wpOrd_s2 (by decide) rfl rfl rfl ?_; intro K hK; go_big_quiet_op; go_big_quiet_on
          refine wpOrd_s2 (by decide) rfl rfl rfl ?_; intro K hK; go_big_quiet_op; go_big_quiet_on
          first | (refine wpOrd_v rfl rfl ?_; intro K hK; go_big_quiet_op; go_big_quiet_on) | (refine wpOrd_q rfl rfl ?_; intro K hK; go_big_quiet_op; go_big_quiet_on)
          refine wpOrd_nil ?_
          clear hevT _hev
          clear cx cx2 cy cz hS0 S
          go_wp2
          exact bodyPost_ret (v := .int .i64 2) (by simp [results, Tryd.results32, go_sem]) rfl ⟨⟨2, rfl, hno.out⟩, K3.drew⟩
        · by_cases h3 : hi2 < b
          · have hno := Lib.hid (hbad.out 2 (by rw [hre, if_pos (.inr h3)]))
            have d2 : (a < lo) = False := eq_false h2
            have d3 : (hi2 < b) = True := eq_true h3
            clear hre
            go_wp2_with fail
            obtain ⟨S, hS⟩ : ∃ S : Nat → World → Prop, S = fun _ w' => (w'.cell? ⟨b1, i * 2, none⟩ = some (.int .i64 a) ∧ w'.cell? ⟨b1, i * 2 + 1, none⟩ = some (.int .i64 b)) ∧ w'.cell? ⟨b2, i * 2, none⟩ = some (.int .i64 lo) ∧ w'.cell? ⟨b2, i * 2 + 1, none⟩ = some (.int .i64 hi2) := ⟨_, rfl⟩
            have hS0 : ∀ w', S 0 w' ↔ ((w'.cell? ⟨b1, i * 2, none⟩ = some (.int .i64 a) ∧ w'.cell? ⟨b1, i * 2 + 1, none⟩ = some (.int .i64 b)) ∧ w'.cell? ⟨b2, i * 2, none⟩ = some (.int .i64 lo) ∧ w'.cell? ⟨b2, i * 2 + 1, none⟩ = some (.int .i64 hi2)) := fun w' => by rw [hS]
            clear hS
            have cx := fun (x : Ev (S 0)) => ((hS0 _).1 x.h).1.1
            have cx2 := fun (x : Ev (S 0)) => ((hS0 _).1 x.h).1.2
            have cy := fun (x : Ev (S 0)) => ((hS0 _).1 x.h).2.1
            have cz := fun (x : Ev (S 0)) => ((hS0 _).1 x.h).2.2
            have hevT := ev_true
            refine wp_region_ord S [(0, 0), (1, 0), (2, 0), (3, 0), (4, 1), (5, 0), (6, 0), (7, 0), (8, 0), (9, 1), (10, 0), (11, 0), (12, 0), (13, 0), (14, 0), (15, 0), (16, 1), (17, 0), (18, 0), (19, 0), (20, 0), (21, 1), (22, 0), (23, 0)] [] (by kernel_rfl) (by kernel_rfl) ((hS0 _).2 ⟨⟨ca, cb⟩, cl, ch⟩) ?_
            intro _hev
            iterate 24 (first | (refine wpOrd_v rfl rfl ?_; intro K hK; go_big_quiet_op; go_big_quiet_on) | (refine wpOrd_q rfl rfl ?_; intro K hK; go_big_quiet_op; go_big_quiet_on) | refine wpOrd_s (by decide) rfl rfl ?_)
            refine wpOrd_nil ?_
            clear hevT _hev
            clear cx cx2 cy cz hS0 S
            go_wp2
            exact bodyPost_ret (v := .int .i64 2) (by simp [results, Tryd.results32, go_sem]) rfl ⟨⟨2, rfl, hno.out⟩, K3.drew⟩
          · have hok := Lib.hid (hst.out (by rw [hre, if_neg (fun k => k.elim h2 h3)]))
            have d2 : (a < lo) = False := eq_false h2
            have d3 : (hi2 < b) = False := eq_false h3
            clear hre
            go_wp2_with fail
            obtain ⟨S, hS⟩ : ∃ S : Nat → World → Prop, S = fun _ w' => (w'.cell? ⟨b1, i * 2, none⟩ = some (.int .i64 a) ∧ w'.cell? ⟨b1, i * 2 + 1, none⟩ = some (.int .i64 b)) ∧ w'.cell? ⟨b2, i * 2, none⟩ = some (.int .i64 lo) ∧ w'.cell? ⟨b2, i * 2 + 1, none⟩ = some (.int .i64 hi2) := ⟨_, rfl⟩
            have hS0 : ∀ w', S 0 w' ↔ ((w'.cell? ⟨b1, i * 2, none⟩ = some (.int .i64 a) ∧ w'.cell? ⟨b1, i * 2 + 1, none⟩ = some (.int .i64 b)) ∧ w'.cell? ⟨b2, i * 2, none⟩ = some (.int .i64 lo) ∧ w'.cell? ⟨b2, i * 2 + 1, none⟩ = some (.int .i64 hi2)) := fun w' => by rw [hS]
            clear hS
            have cx := fun (x : Ev (S 0)) => ((hS0 _).1 x.h).1.1
            have cx2 := fun (x : Ev (S 0)) => ((hS0 _).1 x.h).1.2
            have cy := fun (x : Ev (S 0)) => ((hS0 _).1 x.h).2.1
            have cz := fun (x : Ev (S 0)) => ((hS0 _).1 x.h).2.2
            have hevT := ev_true
            refine wp_region_ord S [(0, 0), (1, 0), (2, 0), (3, 0), (4, 1), (5, 0), (6, 0), (7, 0), (8, 0), (9, 1), (10, 0), (11, 0), (12, 0), (13, 0), (14, 0), (15, 0), (16, 1), (17, 0), (18, 0), (19, 0), (20, 0), (21, 1), (22, 0), (23, 0)] [] (by kernel_rfl) (by kernel_rfl) ((hS0 _).2 ⟨⟨ca, cb⟩, cl, ch⟩) ?_
            intro _hev
            iterate 24 (first | (refine wpOrd_v rfl rfl ?_; intro K hK; go_big_quiet_op; go_big_quiet_on) | (refine wpOrd_q rfl rfl ?_; intro K hK; go_big_quiet_op; go_big_quiet_on) | refine wpOrd_s (by decide) rfl rfl ?_)
            refine wpOrd_nil ?_
            clear hevT _hev
            clear cx cx2 cy cz hS0 S
            go_wp2
            go_roundw
            case rel => exact ⟨i + 1, rfl, h7.out, hok.out, KK.drew⟩
            case measure => have := h7.out; simp [intOf]; omega
    · have he : i = 7 := by omega
      subst he
      have hok := Lib.hid hj
      clear hj hi h7
      go_wp2
      exact bodyPost_ret (v := .int .i64 0) (by simp [results, Tryd.results32, go_sem]) rfl ⟨⟨0, rfl, .inl ⟨rfl, hok.out⟩⟩, K3⟩
end Go.Proofs.YtdiigflbohbndaaDoor
