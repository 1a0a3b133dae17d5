/- The reference: which stones are of a rock. -/
import Derived.Test.YtdiigflbohbndaaDoorRefRock2
import Derived.Test.YtdiigflbohbndaaDoorRock2
namespace Go.Proofs.YtdiigflbohbndaaDoor
open Go.RowKit

def OfRefAt (s : Stone) (r : Rock) (f : Fall) (w : World) (v : Value) (wr : World) : Prop := ∃ i : Nat, v = .int .i64 i ∧ i ≤ 7 ∧ (∀ j, j < i → (rockSpan r f j).lo ≤ stoneNum s j ∧ stoneNum s j ≤ (rockSpan r f j).hi) ∧ Kp w.heap.size none w wr
set_option maxRecDepth 100000 in
set_option maxHeartbeats 1000000 in
theorem ref_Of_any (s : Stone) (r : Rock) (f : Fall) (w : World) :
    Calls Tryd.prog 36 #[.agg #[.int .i64 s.size, .int .i64 s.dens, .int .i64 s.strong, .int .i64 s.spin, .int .i64 s.shape, .bool s.pile, .int .i64 s.speed, .int .i64 s.slope], .agg #[.int .i64 r.size.lo, .int .i64 r.size.hi, .int .i64 r.dens.lo, .int .i64 r.dens.hi, .int .i64 r.strong.lo, .int .i64 r.strong.hi, .int .i64 r.spin.lo, .int .i64 r.spin.hi, .int .i64 r.shape.lo, .int .i64 r.shape.hi, .bool r.pile], .agg #[.int .i64 f.speed.lo, .int .i64 f.speed.hi, .int .i64 f.slope.lo, .int .i64 f.slope.hi]] w fun e w' => (∃ b, e = .returned (.bool b) ∧ (b = true ↔ OfAll s r f)) ∧ Kp w.heap.size none w w' := by
  have K0 := (((Kp.refl w.heap.size none w).alloc (Nat.le_refl _) (.cells #[.int .i64 s.size, .int .i64 s.dens, .int .i64 s.strong, .int .i64 s.spin, .int .i64 s.shape, .bool s.pile, .int .i64 s.speed, .int .i64 s.slope] 36)).alloc (by simp) (.cells #[.int .i64 r.size.lo, .int .i64 r.size.hi, .int .i64 r.dens.lo, .int .i64 r.dens.hi, .int .i64 r.strong.lo, .int .i64 r.strong.hi, .int .i64 r.spin.lo, .int .i64 r.spin.hi, .int .i64 r.shape.lo, .int .i64 r.shape.hi, .bool r.pile] 28)).alloc (by simp; omega) (.cells #[.int .i64 f.speed.lo, .int .i64 f.speed.hi, .int .i64 f.slope.lo, .int .i64 f.slope.hi] 30)
  have SB := ((Blk.new w 36 #[.int .i64 s.size, .int .i64 s.dens, .int .i64 s.strong, .int .i64 s.spin, .int .i64 s.shape, .bool s.pile, .int .i64 s.speed, .int .i64 s.slope]).alloc (.cells #[.int .i64 r.size.lo, .int .i64 r.size.hi, .int .i64 r.dens.lo, .int .i64 r.dens.hi, .int .i64 r.strong.lo, .int .i64 r.strong.hi, .int .i64 r.spin.lo, .int .i64 r.spin.hi, .int .i64 r.shape.lo, .int .i64 r.shape.hi, .bool r.pile] 28)).alloc (.cells #[.int .i64 f.speed.lo, .int .i64 f.speed.hi, .int .i64 f.slope.lo, .int .i64 f.slope.hi] 30)
  have RB := (Blk.newAt (w.alloc (.cells #[.int .i64 s.size, .int .i64 s.dens, .int .i64 s.strong, .int .i64 s.spin, .int .i64 s.shape, .bool s.pile, .int .i64 s.speed, .int .i64 s.slope] 36)) 28 #[.int .i64 r.size.lo, .int .i64 r.size.hi, .int .i64 r.dens.lo, .int .i64 r.dens.hi, .int .i64 r.strong.lo, .int .i64 r.strong.hi, .int .i64 r.spin.lo, .int .i64 r.spin.hi, .int .i64 r.shape.lo, .int .i64 r.shape.hi, .bool r.pile] (n := w.heap.size + 1) (by simp)).alloc (.cells #[.int .i64 f.speed.lo, .int .i64 f.speed.hi, .int .i64 f.slope.lo, .int .i64 f.slope.hi] 30)
  have FB := Blk.newAt ((w.alloc (.cells #[.int .i64 s.size, .int .i64 s.dens, .int .i64 s.strong, .int .i64 s.spin, .int .i64 s.shape, .bool s.pile, .int .i64 s.speed, .int .i64 s.slope] 36)).alloc (.cells #[.int .i64 r.size.lo, .int .i64 r.size.hi, .int .i64 r.dens.lo, .int .i64 r.dens.hi, .int .i64 r.strong.lo, .int .i64 r.strong.hi, .int .i64 r.spin.lo, .int .i64 r.spin.hi, .int .i64 r.shape.lo, .int .i64 r.shape.hi, .bool r.pile] 28)) 30 #[.int .i64 f.speed.lo, .int .i64 f.speed.hi, .int .i64 f.slope.lo, .int .i64 f.slope.hi] (n := w.heap.size + 1 + 1) (by simp)
  generalize hw0 : ((w.alloc (.cells #[.int .i64 s.size, .int .i64 s.dens, .int .i64 s.strong, .int .i64 s.spin, .int .i64 s.shape, .bool s.pile, .int .i64 s.speed, .int .i64 s.slope] 36)).alloc (.cells #[.int .i64 r.size.lo, .int .i64 r.size.hi, .int .i64 r.dens.lo, .int .i64 r.dens.hi, .int .i64 r.strong.lo, .int .i64 r.strong.hi, .int .i64 r.spin.lo, .int .i64 r.spin.hi, .int .i64 r.shape.lo, .int .i64 r.shape.hi, .bool r.pile] 28)).alloc (.cells #[.int .i64 f.speed.lo, .int .i64 f.speed.hi, .int .i64 f.slope.lo, .int .i64 f.slope.hi] 30) = w0 at K0 SB RB FB
  go_enter Tryd.func36, Tryd.ntmps36
  have c0 := fun i => SB.cell i
  go_wp2_with fail
  clear hw0
  refine (ref_CheckStone_any s _).mono ?_
  rintro e w1 ⟨⟨n, rfl, hn⟩, k1⟩
  have K1 := K0.thenN k1 (Nat.le_refl _)
  replace SB := SB.kpN k1
  replace RB := RB.kpN k1
  replace FB := FB.kpN k1
  have hz := stoneChk_zero hn
  clear k1 K0 c0 hn
  by_cases hn0 : n = 0
  · have hs := Lib.hid (hz.1 hn0)
    clear hz
    have cr := fun i => RB.cell i
    have cf := fun i => FB.cell i
    go_wp2_with fail
    refine (ref_CheckRock_any r f _).mono ?_
    rintro e w2 ⟨⟨m, rfl, hm⟩, k2⟩
    have K2 := K1.thenN k2 (Nat.le_refl _)
    replace SB := SB.kpN k2
    replace RB := RB.kpN k2
    replace FB := FB.kpN k2
    have hz := rockChk_zero hm
    clear k2 K1 cr cf hm
    by_cases hm0 : m = 0
    · have hr := Lib.hid (hz.1 hm0)
      clear hz
      have cs := fun i => SB.cell i
      have cr := fun i => RB.cell i
      have cf := fun i => FB.cell i
      by_cases hp : s.pile = r.pile
      · have hpb : (s.pile == r.pile) = true := by rw [hp]; simp
        have hpn : (s.pile != r.pile) = false := by rw [hp]; simp
        go_wp2_with fail
        clear cs cr cf hpb hpn
        replace hp := Lib.hid hp
        obtain ⟨S, hS⟩ : ∃ S : Nat → World → Prop, S = fun _ w' => Blk w' w.heap.size 36 #[.int .i64 s.size, .int .i64 s.dens, .int .i64 s.strong, .int .i64 s.spin, .int .i64 s.shape, .bool s.pile, .int .i64 s.speed, .int .i64 s.slope] ∧ Blk w' (w.heap.size + 1) 28 #[.int .i64 r.size.lo, .int .i64 r.size.hi, .int .i64 r.dens.lo, .int .i64 r.dens.hi, .int .i64 r.strong.lo, .int .i64 r.strong.hi, .int .i64 r.spin.lo, .int .i64 r.spin.hi, .int .i64 r.shape.lo, .int .i64 r.shape.hi, .bool r.pile] ∧ Blk w' (w.heap.size + 1 + 1) 30 #[.int .i64 f.speed.lo, .int .i64 f.speed.hi, .int .i64 f.slope.lo, .int .i64 f.slope.hi] := ⟨_, rfl⟩
        have hS0 : ∀ w', S 0 w' ↔ (Blk w' w.heap.size 36 #[.int .i64 s.size, .int .i64 s.dens, .int .i64 s.strong, .int .i64 s.spin, .int .i64 s.shape, .bool s.pile, .int .i64 s.speed, .int .i64 s.slope] ∧ Blk w' (w.heap.size + 1) 28 #[.int .i64 r.size.lo, .int .i64 r.size.hi, .int .i64 r.dens.lo, .int .i64 r.dens.hi, .int .i64 r.strong.lo, .int .i64 r.strong.hi, .int .i64 r.spin.lo, .int .i64 r.spin.hi, .int .i64 r.shape.lo, .int .i64 r.shape.hi, .bool r.pile] ∧ Blk w' (w.heap.size + 1 + 1) 30 #[.int .i64 f.speed.lo, .int .i64 f.speed.hi, .int .i64 f.slope.lo, .int .i64 f.slope.hi]) := fun w' => by rw [hS]
        clear hS
        have cx := fun (x : Ev (S 0)) i => ((hS0 _).1 x.h).1.cell i
        have cy := fun (x : Ev (S 0)) i => ((hS0 _).1 x.h).2.1.cell i
        have cz := fun (x : Ev (S 0)) i => ((hS0 _).1 x.h).2.2.cell i
        replace SB := SB.drew
        replace RB := RB.drew
        replace FB := FB.drew
        replace K2 := K2.drew
        have hevT := ev_true
        refine wp_region_ord S [(0, 1), (1, 1), (3, 1), (2, 2), (4, 2), (5, 0), (6, 0)] [] (by kernel_rfl) (by kernel_rfl) ((hS0 _).2 ⟨SB, RB, FB⟩) ?_
        intro _hev
        iterate 3 (first | (refine wpOrd_v rfl rfl ?_; intro K hK; go_big_quiet_op; go_big_quiet_on) | (refine wpOrd_q rfl rfl ?_; intro K hK; go_big_quiet_op; go_big_quiet_on) | refine wpOrd_s (by decide) rfl rfl ?_)
        refine wpOrd_l rfl rfl ?_; intro K hK
        go_step
        refine (ref_spans_any r f _).mono ?_
        rintro e w3 ⟨⟨b1, rfl, R1⟩, k3⟩
        replace SB := SB.kpN k3
        replace RB := RB.kpN k3
        replace FB := FB.kpN k3
        have K3 := K2.thenN k3 (Nat.le_refl _)
        refine hK _ _ ((hS0 _).2 ⟨SB, RB, FB⟩) ?_
        clear hK K k3 K2
        refine wpOrd_l rfl rfl ?_; intro K hK
        go_step
        refine (ref_numbers_any s _).mono ?_
        rintro e w4 ⟨⟨b2, rfl, R2⟩, k4⟩
        replace SB := SB.kpN k4
        replace RB := RB.kpN k4
        replace FB := FB.kpN k4
        replace R1 := R1.kpN k4
        have K4 := K3.thenN k4 (Nat.le_refl _)
        refine hK _ _ ((hS0 _).2 ⟨SB, RB, FB⟩) ?_
        clear hK K k4 K3
        iterate 2 (first | (refine wpOrd_v rfl rfl ?_; intro K hK; go_big_quiet_op; go_big_quiet_on) | (refine wpOrd_q rfl rfl ?_; intro K hK; go_big_quiet_op; go_big_quiet_on) | refine wpOrd_s (by decide) rfl rfl ?_)
        refine wpOrd_nil ?_
        clear hevT _hev
        clear cx cy cz hS0 S SB RB FB
        go_wp2_with fail
        go_loopw [9] (fun v wr => OfRefAt s r f w4 v wr) (fun v _ => 7 - (intOf v).toNat)
        case atStart => exact ⟨0, rfl, by omega, fun j hj => absurd hj (by omega), Kp.refl _ _ _⟩
        case round =>
          obtain ⟨i, rfl, hi, hj, KK⟩ := hrel
          have K5 := K4.thenN KK (Nat.le_refl _)
          by_cases h7 : i < 7
          · obtain ⟨_, _, e1, hb1, -, hc1⟩ := (R1.kpN KK).at_ (by omega)
            obtain ⟨_, _, e2, hb2, -, hc2⟩ := (R2.kpN KK).at_ (by omega)
            injection e1 with e1; injection e1 with e1 e3
            injection e2 with e2; injection e2 with e2 e4
            subst e1 e2 e3 e4
            have hL : i < (spansL r f).length := h7
            have hM : i < (numL s).length := h7
            have ca := hc1 i hL 0 (.int .i64 (rockSpan r f i).lo) (by rw [spansL_at r f i]; rfl)
            have cb := hc1 i hL 1 (.int .i64 (rockSpan r f i).hi) (by rw [spansL_at r f i]; rfl)
            have cn := hc2 i hM 0 (.int .i64 (stoneNum s i)) (by rw [numL_at s i]; rfl)
            simp only [Nat.zero_add, Nat.mul_one, Nat.add_zero] at ca cb cn
            have hst : ((rockSpan r f i).lo ≤ stoneNum s i ∧ stoneNum s i ≤ (rockSpan r f i).hi) → ∀ j, j < i + 1 → (rockSpan r f j).lo ≤ stoneNum s j ∧ stoneNum s j ≤ (rockSpan r f j).hi := fun h j hj' => by
              rcases Nat.lt_or_ge j i with h1 | h1
              · exact hj j h1
              · rw [show j = i from by omega]; exact h
            have hbad : btw (stoneNum s i) (rockSpan r f i).lo (rockSpan r f i).hi = false → ¬ OfAll s r f := fun h k => by
              have := (btw_true _ _ _).2 (k.2.2.2 i h7)
              rw [h] at this; cases this
            replace hst := Lib.hid hst
            replace hbad := Lib.hid hbad
            generalize stoneNum s i = n at cn hst hbad
            generalize rockSpan r f i = sp at ca cb hst hbad
            obtain ⟨lo, hi2⟩ := sp
            simp only at ca cb hst hbad
            have h7' : (i : Int) < 7 := by omega
            replace R1 := Lib.hid R1
            replace R2 := Lib.hid R2
            replace hb1 := Lib.hid hb1
            replace hb2 := Lib.hid hb2
            clear hi hj hc1 hc2 hL hM
            replace h7 := Lib.hid h7
            go_wp2_with fail
            obtain ⟨S, hS⟩ : ∃ S : Nat → World → Prop, S = fun _ w' => w'.cell? ⟨b2, i, none⟩ = some (.int .i64 n) ∧ w'.cell? ⟨b1, i * 2, none⟩ = some (.int .i64 lo) ∧ w'.cell? ⟨b1, i * 2 + 1, none⟩ = some (.int .i64 hi2) := ⟨_, rfl⟩
            have hS0 : ∀ w', S 0 w' ↔ (w'.cell? ⟨b2, i, none⟩ = some (.int .i64 n) ∧ w'.cell? ⟨b1, i * 2, none⟩ = some (.int .i64 lo) ∧ w'.cell? ⟨b1, i * 2 + 1, none⟩ = some (.int .i64 hi2)) := fun w' => by rw [hS]
            clear hS
            have cx := fun (x : Ev (S 0)) => ((hS0 _).1 x.h).1
            have cy := fun (x : Ev (S 0)) => ((hS0 _).1 x.h).2.1
            have cz := fun (x : Ev (S 0)) => ((hS0 _).1 x.h).2.2
            have hevT := ev_true
            refine wp_region_ord S [(0, 0), (1, 0), (2, 0), (3, 1), (4, 0), (5, 0), (6, 0), (7, 0), (8, 1), (9, 0), (10, 0), (11, 0), (12, 0), (13, 1), (14, 2), (15, 0)] [] (by kernel_rfl) (by kernel_rfl) ((hS0 _).2 ⟨cn, ca, cb⟩) ?_
            intro _hev
            iterate 14 (first | (refine wpOrd_v rfl rfl ?_; intro K hK; go_big_quiet_op; go_big_quiet_on) | (refine wpOrd_q rfl rfl ?_; intro K hK; go_big_quiet_op; go_big_quiet_on) | refine wpOrd_s (by decide) rfl rfl ?_)
            refine wpOrd_l rfl rfl ?_; intro K hK
            go_step
            refine (bolideref07_between_any n lo hi2 _).mono ?_
            rintro e w6 ⟨rfl, hk6⟩
            have K6 := K5.drew.thenN hk6 (Nat.le_refl _)
            refine hK _ _ ((hS0 _).2 ⟨(hk6.cell _ _ hb2.out (by simp)).trans cn, (hk6.cell _ _ hb1.out (by simp)).trans ca, (hk6.cell _ _ hb1.out (by simp)).trans cb⟩) ?_
            clear hK K
            iterate 1 (first | (refine wpOrd_v rfl rfl ?_; intro K hK; go_big_quiet_op; go_big_quiet_on) | (refine wpOrd_q rfl rfl ?_; intro K hK; go_big_quiet_op; go_big_quiet_on) | refine wpOrd_s (by decide) rfl rfl ?_)
            refine wpOrd_nil ?_
            clear hevT _hev
            cases hbt : btw n lo hi2
            · have hno := Lib.hid (hbad.out hbt)
              go_wp2
              exact bodyPost_ret (v := .bool false) (by simp [results, Tryd.results36, go_sem]) rfl ⟨⟨false, rfl, fun k => Bool.noConfusion k, fun k => absurd k hno.out⟩, K6⟩
            · have hst' := Lib.hid (hst.out ((btw_true n lo hi2).1 hbt))
              have KK6 := KK.drew.thenN hk6 (Nat.le_refl _)
              go_wp2
              go_roundw
              case rel => exact ⟨i + 1, rfl, h7.out, hst'.out, KK6⟩
              case measure => have := h7.out; simp [intOf]; omega
          · have he : i = 7 := by omega
            subst he
            have hok := Lib.hid (show OfAll s r f from ⟨hs.out, hr.out, hp.out, hj⟩)
            clear hj hi h7
            go_wp2
            exact bodyPost_ret (v := .bool true) (by simp [results, Tryd.results36, go_sem]) rfl ⟨⟨true, rfl, fun _ => hok.out, fun _ => rfl⟩, K5⟩
      · have hno := Lib.hid (show ¬ OfAll s r f from fun k => hp k.2.2.1)
        have hpn : (s.pile != r.pile) = true := by simpa using hp
        have hpb : (s.pile == r.pile) = false := by simpa using hp
        go_wp2
        exact bodyPost_ret (v := .bool false) (by simp [results, Tryd.results36, go_sem]) rfl ⟨⟨false, rfl, fun k => Bool.noConfusion k, fun k => absurd k hno.out⟩, K2⟩
    · have hno := Lib.hid (show ¬ OfAll s r f from fun k => hm0 (hz.2 k.2.1))
      clear hz
      go_wp2
      exact bodyPost_ret (v := .bool false) (by simp [results, Tryd.results36, go_sem]) rfl ⟨⟨false, rfl, fun k => Bool.noConfusion k, fun k => absurd k hno.out⟩, K2⟩
  · have hno := Lib.hid (show ¬ OfAll s r f from fun k => hn0 (hz.2 k.1))
    clear hz
    go_wp2
    exact bodyPost_ret (v := .bool false) (by simp [results, Tryd.results36, go_sem]) rfl ⟨⟨false, rfl, fun k => Bool.noConfusion k, fun k => absurd k hno.out⟩, K1⟩
end Go.Proofs.YtdiigflbohbndaaDoor
