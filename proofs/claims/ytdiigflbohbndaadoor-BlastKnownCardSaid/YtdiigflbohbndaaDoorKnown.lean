/- The chapter's examples: what each call answers. -/
import Derived.Test.YtdiigflbohbndaaDoorMade
import Derived.Test.YtdiigflbohbndaaDoorFill
namespace Go.Proofs.YtdiigflbohbndaaDoor
open Go.RowKit

def exGrades : List Grade := [⟨0, 1⟩, ⟨5000000, 2⟩, ⟨20000000, 4⟩]
def exRock : Rock := ⟨⟨10, 10⟩, ⟨1000, 1000⟩, ⟨50000, 1000000⟩, ⟨0, 0⟩, ⟨1000, 1000⟩, false⟩
def exFall : Fall := ⟨⟨100, 100⟩, ⟨1000, 1000⟩⟩
theorem ex_rock : RockOk exRock exFall := ⟨⟨by decide, by decide, by decide⟩, ⟨by decide, by decide, by decide⟩, ⟨by decide, by decide, by decide⟩, ⟨by decide, by decide, by decide⟩, ⟨by decide, by decide, by decide⟩, ⟨by decide, by decide, by decide⟩, ⟨by decide, by decide, by decide⟩⟩
theorem ex_grades : GradesOk exGrades := ⟨by decide, by decide, by decide, by decide⟩
theorem ex_blows : blowsOf exAir exRock exFall = [⟨1, 9900000, 9900000⟩, ⟨2, 8910000, 8910000⟩] := by kernel_rfl
theorem ex_toll : tollOf (harmsOf exAir.length exGrades exPeople exWater) (blowsOf exAir exRock exFall) 0 1 = ⟨30, 100, 1⟩ := by kernel_rfl
theorem ex_h1 : harmsOf exAir.length exGrades exPeople exWater 2 8910000 2 = 140 := by kernel_rfl
theorem ex_h2 : harmsOf exAir.length exGrades exPeople exWater 2 8910000 1 = 100 := by kernel_rfl
theorem ex_h3 : harmsOf exAir.length exGrades exPeople exWater 1 9900000 1 = 60 := by kernel_rfl
theorem ex_e1 : endsOf exAir ⟨10, 1000, 99000, 0, 1000, false, 100, 1000⟩ = (1, 9900000) := by kernel_rfl
theorem ex_e2 : endsOf exAir ⟨10, 1000, 10000, 0, 1000, false, 100, 1000⟩ = (0, 10000000) := by kernel_rfl
theorem ex_r1 : reachOf 8910000 exGrades 0 = 2 := by kernel_rfl
theorem ex_r2 : reachOf 4999999 exGrades 0 = 1 := by kernel_rfl
theorem ex_r3 : reachOf 20000000 exGrades 0 = 4 := by kernel_rfl
theorem ex_harm2 : harmOf exPeople 4 9 = 150 := by kernel_rfl
theorem ex_wave2 : waveOf exPeople exWater 2 1 = 90 := by kernel_rfl
set_option maxHeartbeats 400000 in
theorem law_grades_any (w : World) : Calls Tryd.prog 71 #[] w fun e w' => (∃ A c, e = .returned (.slice A exGrades.length c) ∧ Rd none w' 2 encGrade A exGrades.length exGrades) ∧ Kp w.heap.size none w w' := by
  have K0 := (Kp.refl w.heap.size none w).alloc (Nat.le_refl _) (.cells #[.int .i64 0, .int .i64 1, .int .i64 5000000, .int .i64 2, .int .i64 20000000, .int .i64 4] 112)
  have B0 := Blk.new w 112 #[.int .i64 0, .int .i64 1, .int .i64 5000000, .int .i64 2, .int .i64 20000000, .int .i64 4]
  have R0 := Rd.of_blk (enc := encGrade) (sz := 2) exGrades (fun _ => rfl) rfl B0 none (by simp)
  go_enter Tryd.func71, Tryd.ntmps71
  go_wp2
  exact bodyPost_ret (v := .slice (some ⟨w.heap.size, 0, none⟩) 3 3) (by simp [results, Tryd.results71, go_sem]) rfl ⟨⟨_, 3, rfl, R0⟩, K0⟩
theorem law_stone_lit (w : World) : Calls Tryd.prog 68 #[] w fun e w' => e = .returned (.agg #[.int .i64 10, .int .i64 1000, .int .i64 1000000, .int .i64 0, .int .i64 1000, .bool false, .int .i64 100, .int .i64 1000]) ∧ Kp w.heap.size none w w' := law_stone_any w
def rockL : Value := .agg #[.int .i64 10, .int .i64 10, .int .i64 1000, .int .i64 1000, .int .i64 1000000, .int .i64 1000000, .int .i64 0, .int .i64 0, .int .i64 1000, .int .i64 1000, .bool false]
theorem soleRock_lit (w : World) :
    Calls Tryd.prog 57 #[.agg #[.int .i64 10, .int .i64 1000, .int .i64 1000000, .int .i64 0, .int .i64 1000, .bool false, .int .i64 100, .int .i64 1000]] w
      fun e w' => e = .returned (.tuple #[.agg #[.int .i64 10, .int .i64 10, .int .i64 1000, .int .i64 1000, .int .i64 1000000, .int .i64 1000000, .int .i64 0, .int .i64 0, .int .i64 1000, .int .i64 1000, .bool false], .agg #[.int .i64 100, .int .i64 100, .int .i64 1000, .int .i64 1000]]) ∧ Kp w.heap.size none w w' := soleRock_any exStone w
set_option maxRecDepth 100000 in
set_option maxHeartbeats 1000000 in
theorem law_rock_any (w : World) :
    Calls Tryd.prog 70 #[] w fun e w' => e = .returned (.tuple #[.agg #[.int .i64 exRock.size.lo, .int .i64 exRock.size.hi, .int .i64 exRock.dens.lo, .int .i64 exRock.dens.hi, .int .i64 exRock.strong.lo, .int .i64 exRock.strong.hi, .int .i64 exRock.spin.lo, .int .i64 exRock.spin.hi, .int .i64 exRock.shape.lo, .int .i64 exRock.shape.hi, .bool exRock.pile], .agg #[.int .i64 exFall.speed.lo, .int .i64 exFall.speed.hi, .int .i64 exFall.slope.lo, .int .i64 exFall.slope.hi]]) ∧ Kp w.heap.size none w w' := by
  have K0 := ((Kp.refl w.heap.size none w).alloc (Nat.le_refl _) (.cells #[.int .i64 0, .int .i64 0, .int .i64 0, .int .i64 0, .int .i64 0, .int .i64 0, .int .i64 0, .int .i64 0, .int .i64 0, .int .i64 0, .bool false] 28)).alloc (by simp) (.cells #[.int .i64 0, .int .i64 0, .int .i64 0, .int .i64 0] 30)
  have RB := (Blk.new w 28 #[.int .i64 0, .int .i64 0, .int .i64 0, .int .i64 0, .int .i64 0, .int .i64 0, .int .i64 0, .int .i64 0, .int .i64 0, .int .i64 0, .bool false]).alloc (.cells #[.int .i64 0, .int .i64 0, .int .i64 0, .int .i64 0] 30)
  have FB := Blk.newAt (w.alloc (.cells #[.int .i64 0, .int .i64 0, .int .i64 0, .int .i64 0, .int .i64 0, .int .i64 0, .int .i64 0, .int .i64 0, .int .i64 0, .int .i64 0, .bool false] 28)) 30 #[.int .i64 0, .int .i64 0, .int .i64 0, .int .i64 0] (n := w.heap.size + 1) (by simp)
  go_enter Tryd.func70, Tryd.ntmps70
  go_wp2_with fail
  generalize (w.alloc (.cells #[.int .i64 0, .int .i64 0, .int .i64 0, .int .i64 0, .int .i64 0, .int .i64 0, .int .i64 0, .int .i64 0, .int .i64 0, .int .i64 0, .bool false] 28)).alloc (.cells #[.int .i64 0, .int .i64 0, .int .i64 0, .int .i64 0] 30) = w0 at *
  refine (law_stone_lit _).mono ?_
  rintro e w1 ⟨rfl, k1⟩
  replace K0 := K0.thenN k1 (Nat.le_refl _)
  replace RB := RB.kpN k1
  replace FB := FB.kpN k1
  clear k1
  go_wp2_with fail
  refine (soleRock_lit _).mono ?_
  rintro e w2 ⟨rfl, k2⟩
  replace K0 := K0.thenN k2 (Nat.le_refl _)
  replace RB := RB.kpN k2
  replace FB := FB.kpN k2
  clear k2
  have NB := (Blk.new w2 28 #[.int .i64 10, .int .i64 10, .int .i64 1000, .int .i64 1000, .int .i64 1000000, .int .i64 1000000, .int .i64 0, .int .i64 0, .int .i64 1000, .int .i64 1000, .bool false]).alloc (.cells #[.int .i64 100, .int .i64 100, .int .i64 1000, .int .i64 1000] 30)
  have NF := Blk.newAt (w2.alloc (.cells #[.int .i64 10, .int .i64 10, .int .i64 1000, .int .i64 1000, .int .i64 1000000, .int .i64 1000000, .int .i64 0, .int .i64 0, .int .i64 1000, .int .i64 1000, .bool false] 28)) 30 #[.int .i64 100, .int .i64 100, .int .i64 1000, .int .i64 1000] (n := w2.heap.size + 1) (by simp)
  have hlt2 := RB.lt
  have hlt3 := FB.lt
  replace K0 := (K0.alloc K0.size (.cells #[.int .i64 10, .int .i64 10, .int .i64 1000, .int .i64 1000, .int .i64 1000000, .int .i64 1000000, .int .i64 0, .int .i64 0, .int .i64 1000, .int .i64 1000, .bool false] 28)).alloc (alloc_ge K0.size _) (.cells #[.int .i64 100, .int .i64 100, .int .i64 1000, .int .i64 1000] 30)
  replace RB := (RB.alloc (.cells #[.int .i64 10, .int .i64 10, .int .i64 1000, .int .i64 1000, .int .i64 1000000, .int .i64 1000000, .int .i64 0, .int .i64 0, .int .i64 1000, .int .i64 1000, .bool false] 28)).alloc (.cells #[.int .i64 100, .int .i64 100, .int .i64 1000, .int .i64 1000] 30)
  replace FB := (FB.alloc (.cells #[.int .i64 10, .int .i64 10, .int .i64 1000, .int .i64 1000, .int .i64 1000000, .int .i64 1000000, .int .i64 0, .int .i64 0, .int .i64 1000, .int .i64 1000, .bool false] 28)).alloc (.cells #[.int .i64 100, .int .i64 100, .int .i64 1000, .int .i64 1000] 30)
  go_wp2_with fail
  obtain ⟨b1, hb1⟩ : ∃ q, q = w2.heap.size := ⟨_, rfl⟩
  rw [← hb1] at NB NF hlt2 hlt3 ⊢
  generalize (w2.alloc (.cells #[.int .i64 10, .int .i64 10, .int .i64 1000, .int .i64 1000, .int .i64 1000000, .int .i64 1000000, .int .i64 0, .int .i64 0, .int .i64 1000, .int .i64 1000, .bool false] 28)).alloc (.cells #[.int .i64 100, .int .i64 100, .int .i64 1000, .int .i64 1000] 30) = w3 at *
  clear hb1
  refine (of_any 50000 1000000 _).mono ?_
  rintro e w4 ⟨rfl, k4⟩
  replace K0 := K0.thenN k4 (Nat.le_refl _)
  replace RB := RB.kpN k4
  replace FB := FB.kpN k4
  replace NB := NB.kpN k4
  replace NF := NF.kpN k4
  clear k4
  have c1 := fun i => NB.cell i
  have f1 := fun i => NB.frozen i
  go_wp2_with fail
  have NB2 : Blk ((w4.setCell ⟨b1, 4, none⟩ (.int .i64 50000)).setCell ⟨b1, 5, none⟩ (.int .i64 1000000)) b1 28 #[.int .i64 10, .int .i64 10, .int .i64 1000, .int .i64 1000, .int .i64 50000, .int .i64 1000000, .int .i64 0, .int .i64 0, .int .i64 1000, .int .i64 1000, .bool false] := by
    have h2 := ((NB.set_ 4 (.int .i64 50000)).set_ 5 (.int .i64 1000000))
    simp only [List.setIfInBounds_toArray, List.set_cons_zero, List.set_cons_succ] at h2
    exact h2
  replace NF := (NF.far (p := ⟨b1, 4, none⟩) (show b1 + 1 ≠ b1 by omega) (.int .i64 50000)).far (p := ⟨b1, 5, none⟩) (show b1 + 1 ≠ b1 by omega) (.int .i64 1000000)
  replace RB := (RB.far (p := ⟨b1, 4, none⟩) (show w.heap.size ≠ b1 by omega) (.int .i64 50000)).far (p := ⟨b1, 5, none⟩) (show w.heap.size ≠ b1 by omega) (.int .i64 1000000)
  replace FB := (FB.far (p := ⟨b1, 4, none⟩) (show w.heap.size + 1 ≠ b1 by omega) (.int .i64 50000)).far (p := ⟨b1, 5, none⟩) (show w.heap.size + 1 ≠ b1 by omega) (.int .i64 1000000)
  replace K0 := (K0.setNew (p := ⟨b1, 4, none⟩) (show w.heap.size ≤ b1 by omega) (.int .i64 50000)).setNew (p := ⟨b1, 5, none⟩) (show w.heap.size ≤ b1 by omega) (.int .i64 1000000)
  generalize (w4.setCell ⟨b1, 4, none⟩ (.int .i64 50000)).setCell ⟨b1, 5, none⟩ (.int .i64 1000000) = w5 at *
  clear NB c1 f1
  replace NB2 := NB2.drew
  replace NF := NF.drew
  replace RB := RB.drew
  replace FB := FB.drew
  replace K0 := K0.drew
  obtain ⟨S, hS⟩ : ∃ S : Nat → World → Prop, S = fun _ w' => Blk w' b1 28 #[.int .i64 10, .int .i64 10, .int .i64 1000, .int .i64 1000, .int .i64 50000, .int .i64 1000000, .int .i64 0, .int .i64 0, .int .i64 1000, .int .i64 1000, .bool false] ∧ Blk w' (b1 + 1) 30 #[.int .i64 100, .int .i64 100, .int .i64 1000, .int .i64 1000] := ⟨_, rfl⟩
  have hS0 : ∀ w', S 0 w' ↔ (Blk w' b1 28 #[.int .i64 10, .int .i64 10, .int .i64 1000, .int .i64 1000, .int .i64 50000, .int .i64 1000000, .int .i64 0, .int .i64 0, .int .i64 1000, .int .i64 1000, .bool false] ∧ Blk w' (b1 + 1) 30 #[.int .i64 100, .int .i64 100, .int .i64 1000, .int .i64 1000]) := fun w' => by rw [hS]
  clear hS
  have cA := fun (q : Ev (S 0)) i => ((hS0 _).1 q.h).1.cell i
  have cB := fun (q : Ev (S 0)) i => ((hS0 _).1 q.h).2.cell i
  have hevT := ev_true
  refine wp_region_ord S [(0, 1), (1, 1), (2, 2), (3, 2)] [] (by kernel_rfl) (by kernel_rfl) ((hS0 _).2 ⟨NB2, NF⟩) ?_
  intro _hev
  iterate 2 (first | (refine wpOrd_v rfl rfl ?_; intro K hK; go_big_quiet_op; go_big_quiet_on) | (refine wpOrd_q rfl rfl ?_; intro K hK; go_big_quiet_op; go_big_quiet_on) | refine wpOrd_s (by decide) rfl rfl ?_)
  generalize w5.drew = w5d at *
  have d1 := fun i => RB.cell i
  have g1 := fun i => RB.frozen i
  refine wpOrd_l rfl rfl ?_; intro K hK
  go_step
  have RB2 := Blk.fill11 (.int .i64 10) (.int .i64 10) (.int .i64 1000) (.int .i64 1000) (.int .i64 50000) (.int .i64 1000000) (.int .i64 0) (.int .i64 0) (.int .i64 1000) (.int .i64 1000) (.bool false) RB
  replace FB := Blk.fillFar FB (show w.heap.size + 1 ≠ w.heap.size by omega) [.int .i64 10, .int .i64 10, .int .i64 1000, .int .i64 1000, .int .i64 50000, .int .i64 1000000, .int .i64 0, .int .i64 0, .int .i64 1000, .int .i64 1000, .bool false] 0
  replace NB2 := Blk.fillFar NB2 (show b1 ≠ w.heap.size by omega) [.int .i64 10, .int .i64 10, .int .i64 1000, .int .i64 1000, .int .i64 50000, .int .i64 1000000, .int .i64 0, .int .i64 0, .int .i64 1000, .int .i64 1000, .bool false] 0
  replace NF := Blk.fillFar NF (show b1 + 1 ≠ w.heap.size by omega) [.int .i64 10, .int .i64 10, .int .i64 1000, .int .i64 1000, .int .i64 50000, .int .i64 1000000, .int .i64 0, .int .i64 0, .int .i64 1000, .int .i64 1000, .bool false] 0
  replace K0 := Kp.fill K0 (Nat.le_refl w.heap.size) [.int .i64 10, .int .i64 10, .int .i64 1000, .int .i64 1000, .int .i64 50000, .int .i64 1000000, .int .i64 0, .int .i64 0, .int .i64 1000, .int .i64 1000, .bool false] 0
  obtain ⟨w6, hw6⟩ : ∃ w6, w6 = fillAt w5d w.heap.size 0 [.int .i64 10, .int .i64 10, .int .i64 1000, .int .i64 1000, .int .i64 50000, .int .i64 1000000, .int .i64 0, .int .i64 0, .int .i64 1000, .int .i64 1000, .bool false] := ⟨_, rfl⟩
  rw [← hw6] at RB2 FB NB2 NF K0
  simp only [fillAt, Nat.zero_add, Nat.reduceAdd] at hw6
  rw [← hw6]
  clear hw6 d1 g1
  refine hK _ _ ((hS0 _).2 ⟨NB2, NF⟩) ?_
  clear hK K
  have d1 := fun i => FB.cell i
  have g1 := fun i => FB.frozen i
  refine wpOrd_l rfl rfl ?_; intro K hK
  go_step
  have FB2 := Blk.fill4 (.int .i64 100) (.int .i64 100) (.int .i64 1000) (.int .i64 1000) FB
  replace RB2 := Blk.fillFar RB2 (show w.heap.size ≠ w.heap.size + 1 by omega) [.int .i64 100, .int .i64 100, .int .i64 1000, .int .i64 1000] 0
  replace NB2 := Blk.fillFar NB2 (show b1 ≠ w.heap.size + 1 by omega) [.int .i64 100, .int .i64 100, .int .i64 1000, .int .i64 1000] 0
  replace NF := Blk.fillFar NF (show b1 + 1 ≠ w.heap.size + 1 by omega) [.int .i64 100, .int .i64 100, .int .i64 1000, .int .i64 1000] 0
  replace K0 := Kp.fill K0 (show w.heap.size ≤ w.heap.size + 1 by omega) [.int .i64 100, .int .i64 100, .int .i64 1000, .int .i64 1000] 0
  obtain ⟨w7, hw7⟩ : ∃ w7, w7 = fillAt w6 (w.heap.size + 1) 0 [.int .i64 100, .int .i64 100, .int .i64 1000, .int .i64 1000] := ⟨_, rfl⟩
  rw [← hw7] at RB2 FB2 NB2 NF K0
  simp only [fillAt, Nat.zero_add, Nat.reduceAdd] at hw7
  rw [← hw7]
  clear hw7 d1 g1
  refine hK _ _ ((hS0 _).2 ⟨NB2, NF⟩) ?_
  clear hK K
  refine wpOrd_nil ?_
  clear hevT _hev
  have h1 := fun i => RB2.cell i
  have h2 := fun i => FB2.cell i
  go_wp2
  exact bodyPost_ret (v := .tuple #[.agg #[.int .i64 10, .int .i64 10, .int .i64 1000, .int .i64 1000, .int .i64 50000, .int .i64 1000000, .int .i64 0, .int .i64 0, .int .i64 1000, .int .i64 1000, .bool false], .agg #[.int .i64 100, .int .i64 100, .int .i64 1000, .int .i64 1000]]) (by simp [results, Tryd.results70, go_sem, h1, h2]) rfl ⟨rfl, K0⟩
theorem mass_ex (w : World) (hb : Bnd w) :
    Calls Tryd.prog 37 #[.agg #[.int .i64 10, .int .i64 1000, .int .i64 1000000, .int .i64 0, .int .i64 1000, .bool false, .int .i64 100, .int .i64 1000]] w fun e w' => e = .returned (.int .i64 1000) ∧ Kp w.heap.size none w w' :=
  (blast_Mass_any ⟨10, 1000, 1000000, 0, 1000, false, 100, 1000⟩ w hb).mono fun e w' ⟨⟨n, h1, h2⟩, h3⟩ => by
    refine ⟨?_, h3⟩
    rcases h2 with ⟨_, h2⟩ | ⟨h2, _⟩
    · rw [h1, h2, show massOf (⟨10, 1000, 1000000, 0, 1000, false, 100, 1000⟩ : Stone).size (⟨10, 1000, 1000000, 0, 1000, false, 100, 1000⟩ : Stone).dens = 1000 by kernel_rfl]
    · exact absurd ⟨by decide, by decide, by decide, by decide, by decide, by decide, by decide⟩ h2
theorem holds_ex1 (w : World) (hb : Bnd w) :
    Calls Tryd.prog 23 #[.agg #[.int .i64 10, .int .i64 1000, .int .i64 1000000, .int .i64 0, .int .i64 1000, .bool false, .int .i64 100, .int .i64 1000]] w fun e w' => e = .returned (.int .i64 1000000) ∧ Kp w.heap.size none w w' :=
  (blast_Holds_any ⟨10, 1000, 1000000, 0, 1000, false, 100, 1000⟩ w hb).mono fun e w' ⟨⟨n, h1, h2⟩, h3⟩ => by
    refine ⟨?_, h3⟩
    rcases h2 with ⟨_, h2⟩ | ⟨h2, _⟩
    · rw [h1, h2, show holdOf (⟨10, 1000, 1000000, 0, 1000, false, 100, 1000⟩ : Stone).strong (⟨10, 1000, 1000000, 0, 1000, false, 100, 1000⟩ : Stone).spin (⟨10, 1000, 1000000, 0, 1000, false, 100, 1000⟩ : Stone).pile = 1000000 by kernel_rfl]
    · exact absurd ⟨by decide, by decide, by decide, by decide, by decide, by decide, by decide⟩ h2
theorem holds_ex2 (w : World) (hb : Bnd w) :
    Calls Tryd.prog 23 #[.agg #[.int .i64 10, .int .i64 1000, .int .i64 1000000, .int .i64 250, .int .i64 1000, .bool true, .int .i64 100, .int .i64 1000]] w fun e w' => e = .returned (.int .i64 750000) ∧ Kp w.heap.size none w w' :=
  (blast_Holds_any ⟨10, 1000, 1000000, 250, 1000, true, 100, 1000⟩ w hb).mono fun e w' ⟨⟨n, h1, h2⟩, h3⟩ => by
    refine ⟨?_, h3⟩
    rcases h2 with ⟨_, h2⟩ | ⟨h2, _⟩
    · rw [h1, h2, show holdOf (⟨10, 1000, 1000000, 250, 1000, true, 100, 1000⟩ : Stone).strong (⟨10, 1000, 1000000, 250, 1000, true, 100, 1000⟩ : Stone).spin (⟨10, 1000, 1000000, 250, 1000, true, 100, 1000⟩ : Stone).pile = 750000 by kernel_rfl]
    · exact absurd ⟨by decide, by decide, by decide, by decide, by decide, by decide, by decide⟩ h2
theorem ends_ex1 (A : Option Addr) (c : Nat) (w : World) (h : Rd none w 2 encLayer A exAir.length exAir) (hb : Bnd w) :
    Calls Tryd.prog 20 #[.slice A exAir.length c, .agg #[.int .i64 10, .int .i64 1000, .int .i64 99000, .int .i64 0, .int .i64 1000, .bool false, .int .i64 100, .int .i64 1000]] w fun e w' => e = .returned (.tuple #[.int .i64 1, .int .i64 9900000, .int .i64 0]) ∧ Kp w.heap.size none w w' :=
  (blast_Ends_any A c exAir ⟨10, 1000, 99000, 0, 1000, false, 100, 1000⟩ w h hb).mono fun e w' ⟨⟨n, x, y, h1, h2⟩, h3⟩ => by
    refine ⟨?_, h3⟩
    rcases h2 with ⟨_, _, h4, h5, h6⟩ | ⟨h4, _⟩
    · rw [h1, h4, h5, h6, ex_e1]; rfl
    · exact absurd ⟨ex_air, ⟨by decide, by decide, by decide, by decide, by decide, by decide, by decide⟩⟩ h4
theorem ends_ex2 (A : Option Addr) (c : Nat) (w : World) (h : Rd none w 2 encLayer A exAir.length exAir) (hb : Bnd w) :
    Calls Tryd.prog 20 #[.slice A exAir.length c, .agg #[.int .i64 10, .int .i64 1000, .int .i64 10000, .int .i64 0, .int .i64 1000, .bool false, .int .i64 100, .int .i64 1000]] w fun e w' => e = .returned (.tuple #[.int .i64 0, .int .i64 10000000, .int .i64 0]) ∧ Kp w.heap.size none w w' :=
  (blast_Ends_any A c exAir ⟨10, 1000, 10000, 0, 1000, false, 100, 1000⟩ w h hb).mono fun e w' ⟨⟨n, x, y, h1, h2⟩, h3⟩ => by
    refine ⟨?_, h3⟩
    rcases h2 with ⟨_, _, h4, h5, h6⟩ | ⟨h4, _⟩
    · rw [h1, h4, h5, h6, ex_e2]; rfl
    · exact absurd ⟨ex_air, ⟨by decide, by decide, by decide, by decide, by decide, by decide, by decide⟩⟩ h4
theorem crater_ex (w : World) :
    Calls Tryd.prog 24 #[.int .i64 8910000] w fun e w' => e = .returned (.int .i64 54) ∧ Kp w.heap.size none w w' :=
  (blast_Crater_any 8910000 (by omega) w).mono fun e w' ⟨⟨r, h1, h2⟩, h3⟩ => by
    refine ⟨?_, h3⟩
    rw [h1, crater_one h2 (show IsCrater 8910000 54 from ⟨2984, ⟨by decide, by decide⟩, ⟨by decide, by decide⟩⟩)]
    rfl
theorem reach_ex1 (A : Option Addr) (c : Nat) (w : World) (h : Rd none w 2 encGrade A exGrades.length exGrades) :
    Calls Tryd.prog 30 #[.slice A exGrades.length c, .int .i64 8910000] w fun e w' => e = .returned (.int .i64 2) ∧ Kp w.heap.size none w w' :=
  (blast_Reach_any A c exGrades 8910000 w h).mono fun e w' ⟨⟨n, h1, h2⟩, h3⟩ => by
    refine ⟨?_, h3⟩
    rcases h2 with ⟨_, h2⟩ | ⟨h2, _⟩
    · rw [h1, h2, ex_r1]
    · exact absurd (grades_chkM ex_grades) h2
theorem reach_ex2 (A : Option Addr) (c : Nat) (w : World) (h : Rd none w 2 encGrade A exGrades.length exGrades) :
    Calls Tryd.prog 30 #[.slice A exGrades.length c, .int .i64 4999999] w fun e w' => e = .returned (.int .i64 1) ∧ Kp w.heap.size none w w' :=
  (blast_Reach_any A c exGrades 4999999 w h).mono fun e w' ⟨⟨n, h1, h2⟩, h3⟩ => by
    refine ⟨?_, h3⟩
    rcases h2 with ⟨_, h2⟩ | ⟨h2, _⟩
    · rw [h1, h2, ex_r2]
    · exact absurd (grades_chkM ex_grades) h2
theorem reach_ex3 (A : Option Addr) (c : Nat) (w : World) (h : Rd none w 2 encGrade A exGrades.length exGrades) :
    Calls Tryd.prog 30 #[.slice A exGrades.length c, .int .i64 20000000] w fun e w' => e = .returned (.int .i64 4) ∧ Kp w.heap.size none w w' :=
  (blast_Reach_any A c exGrades 20000000 w h).mono fun e w' ⟨⟨n, h1, h2⟩, h3⟩ => by
    refine ⟨?_, h3⟩
    rcases h2 with ⟨_, h2⟩ | ⟨h2, _⟩
    · rw [h1, h2, ex_r3]
    · exact absurd (grades_chkM ex_grades) h2
theorem harm_ex2 (A A' : Option Addr) (c c' : Nat) (w : World) (h : Rd none w 1 encI A exPeople.length exPeople) (hc : exPeople.length ≤ c) :
    Calls Tryd.prog 28 #[.agg #[.slice A exPeople.length c, .slice A' exWater.length c'], .int .i64 4, .int .i64 9] w fun e w' => e = .returned (.int .i64 150) ∧ Kp w.heap.size none w w' :=
  (blast_Harm_any A A' c _ c' exPeople 4 9 w h hc).mono fun e w' ⟨⟨v, h1, h2⟩, h3⟩ => by
    refine ⟨?_, h3⟩
    rcases h2 with ⟨_, h2⟩ | ⟨h2, _⟩
    · rw [h1, h2]; exact congrArg (fun x => Ending.returned (.int .i64 x)) ex_harm2
    · exact absurd ⟨ex_land, by decide, by decide, by decide⟩ h2
theorem wave_ex2 (A A' : Option Addr) (c c' : Nat) (w : World) (h : Rd none w 1 encI A exPeople.length exPeople) (hb : Rd none w 1 encB A' exWater.length exWater) (hc : exPeople.length ≤ c) :
    Calls Tryd.prog 29 #[.agg #[.slice A exPeople.length c, .slice A' exWater.length c'], .int .i64 2, .int .i64 1] w fun e w' => e = .returned (.int .i64 90) ∧ Kp w.heap.size none w w' :=
  (blast_Wave_any A A' c c' exPeople exWater 2 1 w h hb hc).mono fun e w' ⟨⟨v, h1, h2⟩, h3⟩ => by
    refine ⟨?_, h3⟩
    rcases h2 with ⟨_, _, h2⟩ | ⟨h2, _⟩
    · rw [h1, h2]; exact congrArg (fun x => Ending.returned (.int .i64 x)) ex_wave2
    · exact absurd ⟨⟨ex_land, by decide, by decide, by decide⟩, by decide⟩ h2
theorem wave_ex3 (A A' : Option Addr) (c c' : Nat) (w : World) (h : Rd none w 1 encI A exPeople.length exPeople) (hb : Rd none w 1 encB A' exWater.length exWater) (hc : exPeople.length ≤ c) :
    Calls Tryd.prog 29 #[.agg #[.slice A exPeople.length c, .slice A' exWater.length c'], .int .i64 0, .int .i64 1] w fun e w' => e = .returned (.int .i64 0) ∧ Kp w.heap.size none w w' :=
  (blast_Wave_any A A' c c' exPeople exWater 0 1 w h hb hc).mono fun e w' ⟨⟨v, h1, h2⟩, h3⟩ => by
    refine ⟨?_, h3⟩
    rcases h2 with ⟨_, h2, _⟩ | ⟨_, h2⟩
    · exact absurd h2 (by decide)
    · rw [h1, h2]
theorem harms_ex1 (A1 : Option Addr) (c1 : Nat) (A2 : Option Addr) (c2 : Nat) (A3 A4 : Option Addr) (c3 c4 : Nat) (w : World) (h1 : Rd none w 2 encLayer A1 exAir.length exAir) (h2 : Rd none w 2 encGrade A2 exGrades.length exGrades) (h3 : Rd none w 1 encI A3 exPeople.length exPeople) (h4 : Rd none w 1 encB A4 exWater.length exWater) (hc : exPeople.length ≤ c3) :
    Calls Tryd.prog 59 #[.slice A1 exAir.length c1, .slice A2 exGrades.length c2, .agg #[.slice A3 exPeople.length c3, .slice A4 exWater.length c4], .int .i64 2, .int .i64 8910000, .int .i64 2] w fun e w' => e = .returned (.tuple #[.int .i64 140, .int .i64 0]) ∧ Kp w.heap.size none w w' :=
  (harms_made A1 c1 exAir A2 c2 exGrades A3 A4 c3 c4 exPeople exWater 2 8910000 2 w h1 h2 h3 h4 hc ex_air ex_grades ex_land (by decide) (by decide)).mono fun e w' ⟨k1, k2⟩ => ⟨by rw [k1, ex_h1], k2⟩
theorem harms_ex2 (A1 : Option Addr) (c1 : Nat) (A2 : Option Addr) (c2 : Nat) (A3 A4 : Option Addr) (c3 c4 : Nat) (w : World) (h1 : Rd none w 2 encLayer A1 exAir.length exAir) (h2 : Rd none w 2 encGrade A2 exGrades.length exGrades) (h3 : Rd none w 1 encI A3 exPeople.length exPeople) (h4 : Rd none w 1 encB A4 exWater.length exWater) (hc : exPeople.length ≤ c3) :
    Calls Tryd.prog 59 #[.slice A1 exAir.length c1, .slice A2 exGrades.length c2, .agg #[.slice A3 exPeople.length c3, .slice A4 exWater.length c4], .int .i64 2, .int .i64 8910000, .int .i64 1] w fun e w' => e = .returned (.tuple #[.int .i64 100, .int .i64 0]) ∧ Kp w.heap.size none w w' :=
  (harms_made A1 c1 exAir A2 c2 exGrades A3 A4 c3 c4 exPeople exWater 2 8910000 1 w h1 h2 h3 h4 hc ex_air ex_grades ex_land (by decide) (by decide)).mono fun e w' ⟨k1, k2⟩ => ⟨by rw [k1, ex_h2], k2⟩
theorem harms_ex3 (A1 : Option Addr) (c1 : Nat) (A2 : Option Addr) (c2 : Nat) (A3 A4 : Option Addr) (c3 c4 : Nat) (w : World) (h1 : Rd none w 2 encLayer A1 exAir.length exAir) (h2 : Rd none w 2 encGrade A2 exGrades.length exGrades) (h3 : Rd none w 1 encI A3 exPeople.length exPeople) (h4 : Rd none w 1 encB A4 exWater.length exWater) (hc : exPeople.length ≤ c3) :
    Calls Tryd.prog 59 #[.slice A1 exAir.length c1, .slice A2 exGrades.length c2, .agg #[.slice A3 exPeople.length c3, .slice A4 exWater.length c4], .int .i64 1, .int .i64 9900000, .int .i64 1] w fun e w' => e = .returned (.tuple #[.int .i64 60, .int .i64 0]) ∧ Kp w.heap.size none w w' :=
  (harms_made A1 c1 exAir A2 c2 exGrades A3 A4 c3 c4 exPeople exWater 1 9900000 1 w h1 h2 h3 h4 hc ex_air ex_grades ex_land (by decide) (by decide)).mono fun e w' ⟨k1, k2⟩ => ⟨by rw [k1, ex_h3], k2⟩
theorem toll_ex (A1 : Option Addr) (c1 : Nat) (A2 : Option Addr) (c2 : Nat) (A3 A4 : Option Addr) (c3 c4 : Nat) (w : World) (h1 : Rd none w 2 encLayer A1 exAir.length exAir) (h2 : Rd none w 2 encGrade A2 exGrades.length exGrades) (h3 : Rd none w 1 encI A3 exPeople.length exPeople) (h4 : Rd none w 1 encB A4 exWater.length exWater) (hc : exPeople.length ≤ c3) (hb : Bnd w) :
    Calls Tryd.prog 63 #[.slice A1 exAir.length c1, .slice A2 exGrades.length c2, .agg #[.slice A3 exPeople.length c3, .slice A4 exWater.length c4], .agg #[.int .i64 10, .int .i64 10, .int .i64 1000, .int .i64 1000, .int .i64 50000, .int .i64 1000000, .int .i64 0, .int .i64 0, .int .i64 1000, .int .i64 1000, .bool false], .agg #[.int .i64 100, .int .i64 100, .int .i64 1000, .int .i64 1000], .int .i64 0, .int .i64 1] w fun e w' => e = .returned (.tuple #[.agg #[.int .i64 30, .int .i64 100], .int .i64 0]) ∧ Kp w.heap.size none w w' :=
  (toll_made A1 c1 exAir A2 c2 exGrades A3 A4 c3 c4 exPeople exWater exRock exFall 0 1 w h1 h2 h3 h4 hc hb ex_air ex_rock ex_grades ex_land (by decide) (by decide)).mono fun e w' ⟨k1, k2⟩ => ⟨by rw [k1, ex_toll], k2⟩
theorem worst_ex (A1 : Option Addr) (c1 : Nat) (A2 : Option Addr) (c2 : Nat) (A3 A4 : Option Addr) (c3 c4 : Nat) (w : World) (h1 : Rd none w 2 encLayer A1 exAir.length exAir) (h2 : Rd none w 2 encGrade A2 exGrades.length exGrades) (h3 : Rd none w 1 encI A3 exPeople.length exPeople) (h4 : Rd none w 1 encB A4 exWater.length exWater) (hc : exPeople.length ≤ c3) (hb : Bnd w) :
    Calls Tryd.prog 65 #[.slice A1 exAir.length c1, .slice A2 exGrades.length c2, .agg #[.slice A3 exPeople.length c3, .slice A4 exWater.length c4], .agg #[.int .i64 10, .int .i64 10, .int .i64 1000, .int .i64 1000, .int .i64 50000, .int .i64 1000000, .int .i64 0, .int .i64 0, .int .i64 1000, .int .i64 1000, .bool false], .agg #[.int .i64 100, .int .i64 100, .int .i64 1000, .int .i64 1000], .int .i64 0, .int .i64 1] w fun e w' => e = .returned (.tuple #[.int .i64 1, .int .i64 0]) ∧ Kp w.heap.size none w w' :=
  (worst_made A1 c1 exAir A2 c2 exGrades A3 A4 c3 c4 exPeople exWater exRock exFall 0 1 w h1 h2 h3 h4 hc hb ex_air ex_rock ex_grades ex_land (by decide) (by decide)).mono fun e w' ⟨k1, k2⟩ => ⟨by rw [k1, ex_toll]; rfl, k2⟩
def exBlows : List Blow := [⟨1, 9900000, 9900000⟩, ⟨2, 8910000, 8910000⟩]
theorem blows_ex (A : Option Addr) (c : Nat) (w : World) (h : Rd none w 2 encLayer A exAir.length exAir) (hb : Bnd w) :
    Calls Tryd.prog 54 #[.slice A exAir.length c, .agg #[.int .i64 10, .int .i64 10, .int .i64 1000, .int .i64 1000, .int .i64 50000, .int .i64 1000000, .int .i64 0, .int .i64 0, .int .i64 1000, .int .i64 1000, .bool false], .agg #[.int .i64 100, .int .i64 100, .int .i64 1000, .int .i64 1000]] w fun e w' => (∃ A c, e = .returned (.tuple #[.slice A exBlows.length c, .int .i64 0]) ∧ Rd none w' 3 encBlow A exBlows.length exBlows) ∧ Kp w.heap.size none w w' :=
  (blows_made A c exAir exRock exFall w h hb ex_air ex_rock).mono fun e w' ⟨⟨A, c, k1, k2⟩, k3⟩ => by
    rw [ex_blows] at k1 k2
    exact ⟨⟨A, c, k1, k2⟩, k3⟩
theorem law_rock_lit (w : World) : Calls Tryd.prog 70 #[] w fun e w' => e = .returned (.tuple #[.agg #[.int .i64 10, .int .i64 10, .int .i64 1000, .int .i64 1000, .int .i64 50000, .int .i64 1000000, .int .i64 0, .int .i64 0, .int .i64 1000, .int .i64 1000, .bool false], .agg #[.int .i64 100, .int .i64 100, .int .i64 1000, .int .i64 1000]]) ∧ Kp w.heap.size none w w' := law_rock_any w
end Go.Proofs.YtdiigflbohbndaaDoor
