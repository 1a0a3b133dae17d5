/- Which stones are of a rock. -/
import Derived.Test.YtdiigflbohbndaaDoorRock
namespace Go.Proofs.YtdiigflbohbndaaDoor
open Go.RowKit

theorem Blk.fresh2 {w : World} {g : Nat} {t : TypeId} {cs : Array Value} (_ : Blk w g t cs) (t2 : TypeId) (cs2 : Array Value) : Blk (w.alloc (.cells cs2 t2)) w.heap.size t2 cs2 := Blk.new w t2 cs2
theorem rockChk_zero {r : Rock} {f : Fall} {n : Int} (h : RockChk r f n) : n = 0 ↔ RockAll r f := by
  rcases h with ⟨rfl, h⟩ | ⟨i, hi, hn, _⟩
  · exact ⟨fun _ => h, fun _ => rfl⟩
  · exact ⟨fun h0 => absurd h0 (rockErr_val hn), fun k => by rw [k i hi] at hn; cases hn⟩
theorem stoneChk_zero {s : Stone} {n : Int} (h : StoneChk s n) : n = 0 ↔ StoneOk s := by
  rcases h with ⟨rfl, h⟩ | ⟨rfl, h⟩
  · exact ⟨fun _ => h, fun _ => rfl⟩
  · exact ⟨fun h0 => absurd h0 (by omega), fun k => absurd k h⟩
set_option maxRecDepth 100000 in
set_option maxHeartbeats 1000000 in
theorem blast_Of_any (s : Stone) (r : Rock) (f : Fall) (w : World) (hb : Bnd w) :
    Calls Tryd.prog 35 #[.agg #[.int .i64 s.size, .int .i64 s.dens, .int .i64 s.strong, .int .i64 s.spin, .int .i64 s.shape, .bool s.pile, .int .i64 s.speed, .int .i64 s.slope], .agg #[.int .i64 r.size.lo, .int .i64 r.size.hi, .int .i64 r.dens.lo, .int .i64 r.dens.hi, .int .i64 r.strong.lo, .int .i64 r.strong.hi, .int .i64 r.spin.lo, .int .i64 r.spin.hi, .int .i64 r.shape.lo, .int .i64 r.shape.hi, .bool r.pile], .agg #[.int .i64 f.speed.lo, .int .i64 f.speed.hi, .int .i64 f.slope.lo, .int .i64 f.slope.hi]] w fun e w' => (∃ b, e = .returned (.bool b) ∧ (b = true ↔ OfAll s r f)) ∧ Kp w.heap.size none w w' := by
  have K0 := (((Kp.refl w.heap.size none w).alloc (Nat.le_refl _) (.cells #[.int .i64 s.size, .int .i64 s.dens, .int .i64 s.strong, .int .i64 s.spin, .int .i64 s.shape, .bool s.pile, .int .i64 s.speed, .int .i64 s.slope] 36)).alloc (by simp) (.cells #[.int .i64 r.size.lo, .int .i64 r.size.hi, .int .i64 r.dens.lo, .int .i64 r.dens.hi, .int .i64 r.strong.lo, .int .i64 r.strong.hi, .int .i64 r.spin.lo, .int .i64 r.spin.hi, .int .i64 r.shape.lo, .int .i64 r.shape.hi, .bool r.pile] 28)).alloc (by simp; omega) (.cells #[.int .i64 f.speed.lo, .int .i64 f.speed.hi, .int .i64 f.slope.lo, .int .i64 f.slope.hi] 30)
  have SB := ((Blk.new w 36 #[.int .i64 s.size, .int .i64 s.dens, .int .i64 s.strong, .int .i64 s.spin, .int .i64 s.shape, .bool s.pile, .int .i64 s.speed, .int .i64 s.slope]).alloc (.cells #[.int .i64 r.size.lo, .int .i64 r.size.hi, .int .i64 r.dens.lo, .int .i64 r.dens.hi, .int .i64 r.strong.lo, .int .i64 r.strong.hi, .int .i64 r.spin.lo, .int .i64 r.spin.hi, .int .i64 r.shape.lo, .int .i64 r.shape.hi, .bool r.pile] 28)).alloc (.cells #[.int .i64 f.speed.lo, .int .i64 f.speed.hi, .int .i64 f.slope.lo, .int .i64 f.slope.hi] 30)
  have RB := (Blk.newAt (w.alloc (.cells #[.int .i64 s.size, .int .i64 s.dens, .int .i64 s.strong, .int .i64 s.spin, .int .i64 s.shape, .bool s.pile, .int .i64 s.speed, .int .i64 s.slope] 36)) 28 #[.int .i64 r.size.lo, .int .i64 r.size.hi, .int .i64 r.dens.lo, .int .i64 r.dens.hi, .int .i64 r.strong.lo, .int .i64 r.strong.hi, .int .i64 r.spin.lo, .int .i64 r.spin.hi, .int .i64 r.shape.lo, .int .i64 r.shape.hi, .bool r.pile] (n := w.heap.size + 1) (by simp)).alloc (.cells #[.int .i64 f.speed.lo, .int .i64 f.speed.hi, .int .i64 f.slope.lo, .int .i64 f.slope.hi] 30)
  have FB := Blk.newAt ((w.alloc (.cells #[.int .i64 s.size, .int .i64 s.dens, .int .i64 s.strong, .int .i64 s.spin, .int .i64 s.shape, .bool s.pile, .int .i64 s.speed, .int .i64 s.slope] 36)).alloc (.cells #[.int .i64 r.size.lo, .int .i64 r.size.hi, .int .i64 r.dens.lo, .int .i64 r.dens.hi, .int .i64 r.strong.lo, .int .i64 r.strong.hi, .int .i64 r.spin.lo, .int .i64 r.spin.hi, .int .i64 r.shape.lo, .int .i64 r.shape.hi, .bool r.pile] 28)) 30 #[.int .i64 f.speed.lo, .int .i64 f.speed.hi, .int .i64 f.slope.lo, .int .i64 f.slope.hi] (n := w.heap.size + 1 + 1) (by simp)
  generalize hw0 : ((w.alloc (.cells #[.int .i64 s.size, .int .i64 s.dens, .int .i64 s.strong, .int .i64 s.spin, .int .i64 s.shape, .bool s.pile, .int .i64 s.speed, .int .i64 s.slope] 36)).alloc (.cells #[.int .i64 r.size.lo, .int .i64 r.size.hi, .int .i64 r.dens.lo, .int .i64 r.dens.hi, .int .i64 r.strong.lo, .int .i64 r.strong.hi, .int .i64 r.spin.lo, .int .i64 r.spin.hi, .int .i64 r.shape.lo, .int .i64 r.shape.hi, .bool r.pile] 28)).alloc (.cells #[.int .i64 f.speed.lo, .int .i64 f.speed.hi, .int .i64 f.slope.lo, .int .i64 f.slope.hi] 30) = w0 at K0 SB RB FB
  go_enter Tryd.func35, Tryd.ntmps35
  have c0 := fun i => SB.cell i
  go_wp2_with fail
  clear hw0
  refine (blast_CheckStone_any s _ (hb.kpN K0)).mono ?_
  rintro e w1 ⟨⟨n, rfl, hn⟩, k1⟩
  have K1 := K0.thenN k1 (Nat.le_refl _)
  replace SB := SB.kpN k1
  replace RB := RB.kpN k1
  replace FB := FB.kpN k1
  have hz := stoneChk_zero hn
  clear k1 K0 c0 hn
  by_cases hn0 : n = 0
  · have hs := Lib.hid (hz.1 hn0)
    clear hz
    have cr := fun i => RB.cell i
    have cf := fun i => FB.cell i
    go_wp2_with fail
    refine (blast_CheckRock_any r f _ (hb.kpN K1)).mono ?_
    rintro e w2 ⟨⟨m, rfl, hm⟩, k2⟩
    have K2 := K1.thenN k2 (Nat.le_refl _)
    replace SB := SB.kpN k2
    replace RB := RB.kpN k2
    replace FB := FB.kpN k2
    have hz := rockChk_zero hm
    clear k2 K1 cr cf hm
    by_cases hm0 : m = 0
    · have hr := Lib.hid (hz.1 hm0)
      clear hz
      have cs := fun i => SB.cell i
      have cr := fun i => RB.cell i
      have cf := fun i => FB.cell i
      by_cases hp : s.pile = r.pile
      · have hpb : (s.pile == r.pile) = true := by rw [hp]; simp
        have hpn : (s.pile != r.pile) = false := by rw [hp]; simp
        go_wp2_with fail
        refine (blast_spans_any r f _).mono ?_
        rintro e w3 ⟨rfl, k3⟩
        have K3 := K2.thenN k3 (Nat.le_refl _)
        replace SB := SB.kpN k3
        have PB := SB.fresh2 114 #[.int .i64 (rockSpan r f 0).lo, .int .i64 (rockSpan r f 0).hi, .int .i64 (rockSpan r f 1).lo, .int .i64 (rockSpan r f 1).hi, .int .i64 (rockSpan r f 2).lo, .int .i64 (rockSpan r f 2).hi, .int .i64 (rockSpan r f 3).lo, .int .i64 (rockSpan r f 3).hi, .int .i64 (rockSpan r f 4).lo, .int .i64 (rockSpan r f 4).hi, .int .i64 (rockSpan r f 5).lo, .int .i64 (rockSpan r f 5).hi, .int .i64 (rockSpan r f 6).lo, .int .i64 (rockSpan r f 6).hi]
        have K4 := K3.alloc K3.size (.cells #[.int .i64 (rockSpan r f 0).lo, .int .i64 (rockSpan r f 0).hi, .int .i64 (rockSpan r f 1).lo, .int .i64 (rockSpan r f 1).hi, .int .i64 (rockSpan r f 2).lo, .int .i64 (rockSpan r f 2).hi, .int .i64 (rockSpan r f 3).lo, .int .i64 (rockSpan r f 3).hi, .int .i64 (rockSpan r f 4).lo, .int .i64 (rockSpan r f 4).hi, .int .i64 (rockSpan r f 5).lo, .int .i64 (rockSpan r f 5).hi, .int .i64 (rockSpan r f 6).lo, .int .i64 (rockSpan r f 6).hi] 114)
        replace SB := SB.alloc (.cells #[.int .i64 (rockSpan r f 0).lo, .int .i64 (rockSpan r f 0).hi, .int .i64 (rockSpan r f 1).lo, .int .i64 (rockSpan r f 1).hi, .int .i64 (rockSpan r f 2).lo, .int .i64 (rockSpan r f 2).hi, .int .i64 (rockSpan r f 3).lo, .int .i64 (rockSpan r f 3).hi, .int .i64 (rockSpan r f 4).lo, .int .i64 (rockSpan r f 4).hi, .int .i64 (rockSpan r f 5).lo, .int .i64 (rockSpan r f 5).hi, .int .i64 (rockSpan r f 6).lo, .int .i64 (rockSpan r f 6).hi] 114)
        have hb3 : w.heap.size ≤ w3.heap.size := K3.size
        clear k3 K2 cs cr cf RB FB
        have cs := fun i => SB.cell i
        have e14 : arr14 (rockSpan r f) = #[.int .i64 (rockSpan r f 0).lo, .int .i64 (rockSpan r f 0).hi, .int .i64 (rockSpan r f 1).lo, .int .i64 (rockSpan r f 1).hi, .int .i64 (rockSpan r f 2).lo, .int .i64 (rockSpan r f 2).hi, .int .i64 (rockSpan r f 3).lo, .int .i64 (rockSpan r f 3).hi, .int .i64 (rockSpan r f 4).lo, .int .i64 (rockSpan r f 4).hi, .int .i64 (rockSpan r f 5).lo, .int .i64 (rockSpan r f 5).hi, .int .i64 (rockSpan r f 6).lo, .int .i64 (rockSpan r f 6).hi] := rfl
        go_wp2_with fail
        clear e14
        rw [← hp]
        refine (blast_numbers_any s _).mono ?_
        rintro e w5 ⟨rfl, k5⟩
        have K5 := K4.thenN k5 (Nat.le_refl _)
        have P5 : Blk _ _ _ (arr14 (rockSpan r f)) := PB.kpN k5
        obtain ⟨pb, hpb⟩ : ∃ pb, pb = w3.heap.size := ⟨_, rfl⟩
        rw [← hpb] at P5
        clear k5 K4 PB cs SB
        go_wp2_with fail
        rw [← hpb]
        clear hpb hb3
        go_loopw [31] (fun v wr => OfAt s r f w pb v wr) (fun v _ => 7 - (intOf v).toNat)
        case atStart => exact ⟨0, rfl, by omega, fun j hj => absurd hj (by omega), P5, K5⟩
        case round =>
          obtain ⟨i, rfl, hi, hj, PI, KK⟩ := hrel
          by_cases h7 : i < 7
          · have ha := index7 (stoneNum s) i h7
            have cl : wr.cell? ⟨pb, i * 2, none⟩ = some (.int .i64 (rockSpan r f i).lo) := (PI.cell _).trans (arr14_at (rockSpan r f) i h7).1
            have ch : wr.cell? ⟨pb, i * 2 + 1, none⟩ = some (.int .i64 (rockSpan r f i).hi) := (PI.cell _).trans (arr14_at (rockSpan r f) i h7).2
            have hlt := PI.lt
            have hst : ((rockSpan r f i).lo ≤ stoneNum s i ∧ stoneNum s i ≤ (rockSpan r f i).hi) → ∀ j, j < i + 1 → (rockSpan r f j).lo ≤ stoneNum s j ∧ stoneNum s j ≤ (rockSpan r f j).hi := fun h j hj' => by
              rcases Nat.lt_or_ge j i with h1 | h1
              · exact hj j h1
              · rw [show j = i from by omega]; exact h
            have hbad : btw (stoneNum s i) (rockSpan r f i).lo (rockSpan r f i).hi = false → ¬ OfAll s r f := fun h k => by
              have := (btw_true _ _ _).2 (k.2.2.2 i h7)
              rw [h] at this; cases this
            replace hst := Lib.hid hst
            replace hbad := Lib.hid hbad
            replace PI := Lib.hid PI
            generalize arr7 (stoneNum s) = cs7 at ha
            generalize stoneNum s i = n at ha hst hbad
            generalize rockSpan r f i = sp at cl ch hst hbad
            obtain ⟨lo, hi2⟩ := sp
            simp only at cl ch hst hbad
            have h7' : (i : Int) < 7 := by omega
            have hi0 : (0 : Int) ≤ (i : Int) := by omega
            clear hi hj
            replace h7 := Lib.hid h7
            go_wp2_with fail
            obtain ⟨S, hS⟩ : ∃ S : Nat → World → Prop, S = fun _ w' => w'.cell? ⟨pb, i * 2, none⟩ = some (.int .i64 lo) ∧ w'.cell? ⟨pb, i * 2 + 1, none⟩ = some (.int .i64 hi2) := ⟨_, rfl⟩
            have hS0 : ∀ w', S 0 w' ↔ (w'.cell? ⟨pb, i * 2, none⟩ = some (.int .i64 lo) ∧ w'.cell? ⟨pb, i * 2 + 1, none⟩ = some (.int .i64 hi2)) := fun w' => by rw [hS]
            clear hS
            have cx := fun (x : Ev (S 0)) => ((hS0 _).1 x.h).1
            have cy := fun (x : Ev (S 0)) => ((hS0 _).1 x.h).2
            have hevT := ev_true
            refine wp_region_ord S [(0, 0), (1, 0), (2, 0), (3, 0), (4, 1), (5, 0), (6, 0), (7, 0), (8, 1), (9, 2), (10, 0)] [] (by kernel_rfl) (by kernel_rfl) ((hS0 _).2 ⟨cl, ch⟩) ?_
            intro _hev
            iterate 9 (first | (refine wpOrd_v rfl rfl ?_; intro K hK; go_big_quiet_op; go_big_quiet_on) | (refine wpOrd_q rfl rfl ?_; intro K hK; go_big_quiet_op; go_big_quiet_on) | refine wpOrd_s (by decide) rfl rfl ?_)
            refine wpOrd_l rfl rfl ?_; intro K hK
            go_step
            refine (blast_within_any n lo hi2 _).mono ?_
            rintro e w6 ⟨rfl, hk6⟩
            have K6 := KK.drew.thenN hk6 (Nat.le_refl _)
            have P6 := Lib.hid (PI.out.drew.kpN hk6)
            refine hK _ _ ((hS0 _).2 ⟨(hk6.cell _ _ hlt (by simp)).trans cl, (hk6.cell _ _ hlt (by simp)).trans ch⟩) ?_
            clear hK K
            iterate 1 (first | (refine wpOrd_v rfl rfl ?_; intro K hK; go_big_quiet_op; go_big_quiet_on) | (refine wpOrd_q rfl rfl ?_; intro K hK; go_big_quiet_op; go_big_quiet_on) | refine wpOrd_s (by decide) rfl rfl ?_)
            refine wpOrd_nil ?_
            clear hevT _hev
            clear cx cy hS0 S hk6
            cases hbt : btw n lo hi2
            · have hno := Lib.hid (hbad.out hbt)
              go_wp2
              exact bodyPost_ret (v := .bool false) (by simp [results, Tryd.results35, go_sem]) rfl ⟨⟨false, rfl, fun k => Bool.noConfusion k, fun k => absurd k hno.out⟩, K6⟩
            · have hst' := Lib.hid (hst.out ((btw_true n lo hi2).1 hbt))
              go_wp2
              go_roundw
              case rel => exact ⟨i + 1, rfl, h7.out, hst'.out, P6.out, K6⟩
              case measure => have := h7.out; simp [intOf]; omega
          · have he : i = 7 := by omega
            subst he
            have hok := Lib.hid (show OfAll s r f from ⟨hs.out, hr.out, hp, hj⟩)
            clear hj hi h7
            go_wp2
            exact bodyPost_ret (v := .bool true) (by simp [results, Tryd.results35, go_sem]) rfl ⟨⟨true, rfl, fun _ => hok.out, fun _ => rfl⟩, KK⟩
      · have hno := Lib.hid (show ¬ OfAll s r f from fun k => hp k.2.2.1)
        have hpn : (s.pile != r.pile) = true := by simpa using hp
        have hpb : (s.pile == r.pile) = false := by simpa using hp
        go_wp2
        exact bodyPost_ret (v := .bool false) (by simp [results, Tryd.results35, go_sem]) rfl ⟨⟨false, rfl, fun k => Bool.noConfusion k, fun k => absurd k hno.out⟩, K2⟩
    · have hno := Lib.hid (show ¬ OfAll s r f from fun k => hm0 (hz.2 k.2.1))
      clear hz
      go_wp2
      exact bodyPost_ret (v := .bool false) (by simp [results, Tryd.results35, go_sem]) rfl ⟨⟨false, rfl, fun k => Bool.noConfusion k, fun k => absurd k hno.out⟩, K2⟩
  · have hno := Lib.hid (show ¬ OfAll s r f from fun k => hn0 (hz.2 k.1))
    clear hz
    go_wp2
    exact bodyPost_ret (v := .bool false) (by simp [results, Tryd.results35, go_sem]) rfl ⟨⟨false, rfl, fun k => Bool.noConfusion k, fun k => absurd k hno.out⟩, K1⟩
end Go.Proofs.YtdiigflbohbndaaDoor
