/- The statement on the chapter's examples: its walk. -/
import Derived.Test.YtdiigflbohbndaaDoorKnown
import Derived.Test.YtdiigflbohbndaaDoorInv
namespace Go.Proofs.YtdiigflbohbndaaDoor
open Go.RowKit

structure G11 where
  A1 : Option Addr
  a1 : Nat
  A3 : Option Addr
  a3 : Nat
  A4 : Option Addr
  a4 : Nat
  A5 : Option Addr
  a5 : Nat
  bx : Nat
  done : Bool
set_option maxRecDepth 100000 in
set_option maxHeartbeats 4000000 in
theorem law_BlastKnown_any (w : World) (hb : Bnd w) :
    Calls Tryd.prog 15 #[] w fun e w' => e = .returned (.bool true) ∧ Kp w.heap.size none w w' := by
  go_enter Tryd.func15, Tryd.ntmps15
  go_wp2_with fail
  refine (awake_any _ hb).mono ?_
  rintro e w1 ⟨rfl, K⟩
  go_wp2_with fail
  refine (law_stone_lit _).mono ?_
  rintro e w2 ⟨rfl, k2⟩
  replace K := K.thenN k2 (Nat.le_refl _)
  have hw2 : w.heap.size ≤ w2.heap.size := K.size
  have B1 := Blk.new w2 36 #[.int .i64 10, .int .i64 1000, .int .i64 1000000, .int .i64 0, .int .i64 1000, .bool false, .int .i64 100, .int .i64 1000]
  replace K := K.alloc K.size (.cells #[.int .i64 10, .int .i64 1000, .int .i64 1000000, .int .i64 0, .int .i64 1000, .bool false, .int .i64 100, .int .i64 1000] 36)
  clear k2
  go_wp2_with fail
  obtain ⟨b1, hb1⟩ : ∃ q, q = w2.heap.size := ⟨_, rfl⟩
  rw [← hb1] at B1 hw2 ⊢
  generalize w2.alloc (.cells #[.int .i64 10, .int .i64 1000, .int .i64 1000000, .int .i64 0, .int .i64 1000, .bool false, .int .i64 100, .int .i64 1000] 36) = w3 at *
  clear hb1
  refine (law_stone_lit _).mono ?_
  rintro e w4 ⟨rfl, k4⟩
  replace B1 := B1.kpN k4
  replace K := K.thenN k4 (Nat.le_refl _)
  have B2 := Blk.new w4 36 #[.int .i64 10, .int .i64 1000, .int .i64 1000000, .int .i64 0, .int .i64 1000, .bool false, .int .i64 100, .int .i64 1000]
  have hlt : b1 < w4.heap.size := B1.lt
  replace B1 := B1.alloc (.cells #[.int .i64 10, .int .i64 1000, .int .i64 1000000, .int .i64 0, .int .i64 1000, .bool false, .int .i64 100, .int .i64 1000] 36)
  replace K := K.alloc K.size (.cells #[.int .i64 10, .int .i64 1000, .int .i64 1000000, .int .i64 0, .int .i64 1000, .bool false, .int .i64 100, .int .i64 1000] 36)
  clear k4
  go_upto_region 5 with (fail)
  obtain ⟨b2, hb2⟩ : ∃ q, q = w4.heap.size := ⟨_, rfl⟩
  rw [← hb2] at B2 hlt ⊢
  generalize w4.alloc (.cells #[.int .i64 10, .int .i64 1000, .int .i64 1000000, .int .i64 0, .int .i64 1000, .bool false, .int .i64 100, .int .i64 1000] 36) = w5 at *
  clear hb2
  have c1 := fun i => B1.cell i
  have c2 := fun i => B2.cell i
  have f2 := fun i => B2.frozen i
  go_wp2_with fail
  have B2' : Blk ((w5.setCell ⟨b2, 5, none⟩ (.bool true)).setCell ⟨b2, 3, none⟩ (.int .i64 250)) b2 36 #[.int .i64 10, .int .i64 1000, .int .i64 1000000, .int .i64 250, .int .i64 1000, .bool true, .int .i64 100, .int .i64 1000] := by
    have h2 := ((B2.set_ 5 (.bool true)).set_ 3 (.int .i64 250))
    simp only [List.setIfInBounds_toArray, List.set_cons_zero, List.set_cons_succ] at h2
    exact h2
  replace B1 := (B1.far (p := ⟨b2, 5, none⟩) (show b1 ≠ b2 by omega) (.bool true)).far (p := ⟨b2, 3, none⟩) (show b1 ≠ b2 by omega) (.int .i64 250)
  replace K := (K.setNew (p := ⟨b2, 5, none⟩) (show w.heap.size ≤ b2 by omega) (.bool true)).setNew (p := ⟨b2, 3, none⟩) (show w.heap.size ≤ b2 by omega) (.int .i64 250)
  generalize (w5.setCell ⟨b2, 5, none⟩ (.bool true)).setCell ⟨b2, 3, none⟩ (.int .i64 250) = w6 at *
  clear c1 c2 f2 B2
  refine (mass_ex _ (hb.kpN K)).mono ?_
  rintro e w7 ⟨rfl, k7⟩
  replace B1 := B1.kpN k7
  replace B2' := B2'.kpN k7
  replace K := K.thenN k7 (Nat.le_refl _)
  clear k7
  have c1 := fun i => B1.cell i
  go_wp2_with fail
  refine (holds_ex1 _ (hb.kpN K)).mono ?_
  rintro e w8 ⟨rfl, k8⟩
  replace B1 := B1.kpN k8
  replace B2' := B2'.kpN k8
  replace K := K.thenN k8 (Nat.le_refl _)
  clear k8 c1
  have c2 := fun i => B2'.cell i
  go_wp2_with fail
  refine (holds_ex2 _ (hb.kpN K)).mono ?_
  rintro e w9 ⟨rfl, k9⟩
  replace B1 := B1.kpN k9
  replace K := K.thenN k9 (Nat.le_refl _)
  clear k9 c2 B2'
  have c1 := fun i => B1.cell i
  have f1 := fun i => B1.frozen i
  go_upto_region 8 with (fail)
  have B1' : Blk (w9.setCell ⟨b1, 2, none⟩ (.int .i64 99000)) b1 36 #[.int .i64 10, .int .i64 1000, .int .i64 99000, .int .i64 0, .int .i64 1000, .bool false, .int .i64 100, .int .i64 1000] := by
    have h2 := (B1.set_ 2 (.int .i64 99000))
    simp only [List.setIfInBounds_toArray, List.set_cons_zero, List.set_cons_succ] at h2
    exact h2
  replace K := K.setNew (p := ⟨b1, 2, none⟩) (show w.heap.size ≤ b1 by omega) (.int .i64 99000)
  generalize w9.setCell ⟨b1, 2, none⟩ (.int .i64 99000) = w10 at *
  clear c1 f1 B1
  replace B1' := B1'.drew
  replace K := K.drew
  obtain ⟨S, hS⟩ : ∃ S : Nat → World → Prop, S = fun _ w' => Blk w' b1 36 #[.int .i64 10, .int .i64 1000, .int .i64 99000, .int .i64 0, .int .i64 1000, .bool false, .int .i64 100, .int .i64 1000] := ⟨_, rfl⟩
  have hS0 : ∀ w', S 0 w' ↔ (Blk w' b1 36 #[.int .i64 10, .int .i64 1000, .int .i64 99000, .int .i64 0, .int .i64 1000, .bool false, .int .i64 100, .int .i64 1000]) := fun w' => by rw [hS]
  clear hS
  have cA := fun (q : Ev (S 0)) i => ((hS0 _).1 q.h).cell i
  have hevT := ev_true
  refine wp_region_ord S [(1, 1), (0, 2), (2, 2), (3, 0), (4, 0), (5, 0), (6, 0), (7, 0), (8, 0), (9, 0)] [] (by kernel_rfl) (by kernel_rfl) ((hS0 _).2 B1') ?_
  intro _hev
  iterate 1 (first | (refine wpOrd_v rfl rfl ?_; intro K hK; go_big_quiet_op; go_big_quiet_on) | (refine wpOrd_q rfl rfl ?_; intro K hK; go_big_quiet_op; go_big_quiet_on) | refine wpOrd_s (by decide) rfl rfl ?_)
  refine wpOrd_l rfl rfl ?_; intro K' hK
  go_step
  refine (law_air_any _).mono ?_
  rintro e w11 ⟨⟨A1, a1, rfl, R1⟩, k11⟩
  replace B1' := B1'.kpN k11
  replace K := K.thenN k11 (Nat.le_refl _)
  refine hK _ _ ((hS0 _).2 B1') ?_
  clear hK K' k11
  refine wpOrd_l rfl rfl ?_; intro K' hK
  go_step
  refine (ends_ex1 A1 a1 _ R1 (hb.kpN K)).mono ?_
  rintro e w12 ⟨rfl, k12⟩
  replace B1' := B1'.kpN k12
  replace K := K.thenN k12 (Nat.le_refl _)
  refine hK _ _ ((hS0 _).2 B1') ?_
  clear hK K' k12 R1
  iterate 7 (first | (refine wpOrd_v rfl rfl ?_; intro K hK; go_big_quiet_op; go_big_quiet_on) | (refine wpOrd_q rfl rfl ?_; intro K hK; go_big_quiet_op; go_big_quiet_on) | refine wpOrd_s (by decide) rfl rfl ?_)
  refine wpOrd_nil ?_
  clear hevT _hev
  clear cA hS0 S
  have c1 := fun i => B1'.cell i
  have f1 := fun i => B1'.frozen i
  go_upto_region 10 with (fail)
  have B1 : Blk (w12.setCell ⟨b1, 2, none⟩ (.int .i64 10000)) b1 36 #[.int .i64 10, .int .i64 1000, .int .i64 10000, .int .i64 0, .int .i64 1000, .bool false, .int .i64 100, .int .i64 1000] := by
    have h2 := (B1'.set_ 2 (.int .i64 10000))
    simp only [List.setIfInBounds_toArray, List.set_cons_zero, List.set_cons_succ] at h2
    exact h2
  replace K := K.setNew (p := ⟨b1, 2, none⟩) (show w.heap.size ≤ b1 by omega) (.int .i64 10000)
  generalize w12.setCell ⟨b1, 2, none⟩ (.int .i64 10000) = w13 at *
  clear c1 f1 B1'
  replace B1 := B1.drew
  replace K := K.drew
  obtain ⟨S, hS⟩ : ∃ S : Nat → World → Prop, S = fun _ w' => Blk w' b1 36 #[.int .i64 10, .int .i64 1000, .int .i64 10000, .int .i64 0, .int .i64 1000, .bool false, .int .i64 100, .int .i64 1000] := ⟨_, rfl⟩
  have hS0 : ∀ w', S 0 w' ↔ (Blk w' b1 36 #[.int .i64 10, .int .i64 1000, .int .i64 10000, .int .i64 0, .int .i64 1000, .bool false, .int .i64 100, .int .i64 1000]) := fun w' => by rw [hS]
  clear hS
  have cA := fun (q : Ev (S 0)) i => ((hS0 _).1 q.h).cell i
  have hevT := ev_true
  refine wp_region_ord S [(1, 1), (0, 2), (2, 2), (3, 0), (4, 0), (5, 0), (6, 0), (7, 0), (8, 0), (9, 0)] [] (by kernel_rfl) (by kernel_rfl) ((hS0 _).2 B1) ?_
  intro _hev
  iterate 1 (first | (refine wpOrd_v rfl rfl ?_; intro K hK; go_big_quiet_op; go_big_quiet_on) | (refine wpOrd_q rfl rfl ?_; intro K hK; go_big_quiet_op; go_big_quiet_on) | refine wpOrd_s (by decide) rfl rfl ?_)
  refine wpOrd_l rfl rfl ?_; intro K' hK
  go_step
  refine (law_air_any _).mono ?_
  rintro e w14 ⟨⟨A1, a1, rfl, R1⟩, k14⟩
  replace B1 := B1.kpN k14
  replace K := K.thenN k14 (Nat.le_refl _)
  refine hK _ _ ((hS0 _).2 B1) ?_
  clear hK K' k14
  refine wpOrd_l rfl rfl ?_; intro K' hK
  go_step
  refine (ends_ex2 A1 a1 _ R1 (hb.kpN K)).mono ?_
  rintro e w15 ⟨rfl, k15⟩
  replace B1 := B1.kpN k15
  replace K := K.thenN k15 (Nat.le_refl _)
  refine hK _ _ ((hS0 _).2 B1) ?_
  clear hK K' k15 R1
  iterate 7 (first | (refine wpOrd_v rfl rfl ?_; intro K hK; go_big_quiet_op; go_big_quiet_on) | (refine wpOrd_q rfl rfl ?_; intro K hK; go_big_quiet_op; go_big_quiet_on) | refine wpOrd_s (by decide) rfl rfl ?_)
  refine wpOrd_nil ?_
  clear hevT _hev
  clear cA hS0 S B1
  go_wp2_with fail
  refine (law_rock_lit _).mono ?_
  rintro e w16 ⟨rfl, k16⟩
  replace K := K.thenN k16 (Nat.le_refl _)
  have RB := (Blk.new w16 28 #[.int .i64 10, .int .i64 10, .int .i64 1000, .int .i64 1000, .int .i64 50000, .int .i64 1000000, .int .i64 0, .int .i64 0, .int .i64 1000, .int .i64 1000, .bool false]).alloc (.cells #[.int .i64 100, .int .i64 100, .int .i64 1000, .int .i64 1000] 30)
  have FB := Blk.newAt (w16.alloc (.cells #[.int .i64 10, .int .i64 10, .int .i64 1000, .int .i64 1000, .int .i64 50000, .int .i64 1000000, .int .i64 0, .int .i64 0, .int .i64 1000, .int .i64 1000, .bool false] 28)) 30 #[.int .i64 100, .int .i64 100, .int .i64 1000, .int .i64 1000] (n := w16.heap.size + 1) (by simp)
  replace K := (K.alloc K.size (.cells #[.int .i64 10, .int .i64 10, .int .i64 1000, .int .i64 1000, .int .i64 50000, .int .i64 1000000, .int .i64 0, .int .i64 0, .int .i64 1000, .int .i64 1000, .bool false] 28)).alloc (alloc_ge K.size _) (.cells #[.int .i64 100, .int .i64 100, .int .i64 1000, .int .i64 1000] 30)
  clear k16
  go_upto_region 13 with (fail)
  obtain ⟨b3, hb3⟩ : ∃ q, q = w16.heap.size := ⟨_, rfl⟩
  rw [← hb3] at RB FB ⊢
  generalize (w16.alloc (.cells #[.int .i64 10, .int .i64 10, .int .i64 1000, .int .i64 1000, .int .i64 50000, .int .i64 1000000, .int .i64 0, .int .i64 0, .int .i64 1000, .int .i64 1000, .bool false] 28)).alloc (.cells #[.int .i64 100, .int .i64 100, .int .i64 1000, .int .i64 1000] 30) = w17 at *
  clear hb3
  replace RB := RB.drew
  replace FB := FB.drew
  replace K := K.drew
  obtain ⟨S, hS⟩ : ∃ S : Nat → World → Prop, S = fun _ w' => Blk w' b3 28 #[.int .i64 10, .int .i64 10, .int .i64 1000, .int .i64 1000, .int .i64 50000, .int .i64 1000000, .int .i64 0, .int .i64 0, .int .i64 1000, .int .i64 1000, .bool false] ∧ Blk w' (b3 + 1) 30 #[.int .i64 100, .int .i64 100, .int .i64 1000, .int .i64 1000] := ⟨_, rfl⟩
  have hS0 : ∀ w', S 0 w' ↔ (Blk w' b3 28 #[.int .i64 10, .int .i64 10, .int .i64 1000, .int .i64 1000, .int .i64 50000, .int .i64 1000000, .int .i64 0, .int .i64 0, .int .i64 1000, .int .i64 1000, .bool false] ∧ Blk w' (b3 + 1) 30 #[.int .i64 100, .int .i64 100, .int .i64 1000, .int .i64 1000]) := fun w' => by rw [hS]
  clear hS
  have cA := fun (q : Ev (S 0)) i => ((hS0 _).1 q.h).1.cell i
  have cB := fun (q : Ev (S 0)) i => ((hS0 _).1 q.h).2.cell i
  have hevT := ev_true
  refine wp_region_ord S [(1, 1), (2, 1), (0, 2), (3, 2), (4, 0), (5, 0), (6, 0), (7, 0), (8, 0)] [] (by kernel_rfl) (by kernel_rfl) ((hS0 _).2 ⟨RB, FB⟩) ?_
  intro _hev
  iterate 2 (first | (refine wpOrd_v rfl rfl ?_; intro K hK; go_big_quiet_op; go_big_quiet_on) | (refine wpOrd_q rfl rfl ?_; intro K hK; go_big_quiet_op; go_big_quiet_on) | refine wpOrd_s (by decide) rfl rfl ?_)
  refine wpOrd_l rfl rfl ?_; intro K' hK
  go_step
  refine (law_air_any _).mono ?_
  rintro e w18 ⟨⟨A1, a1, rfl, R1⟩, k18⟩
  replace RB := RB.kpN k18
  replace FB := FB.kpN k18
  replace K := K.thenN k18 (Nat.le_refl _)
  refine hK _ _ ((hS0 _).2 ⟨RB, FB⟩) ?_
  clear hK K' k18
  refine wpOrd_l rfl rfl ?_; intro K' hK
  go_step
  refine (blows_ex A1 a1 _ R1 (hb.kpN K)).mono ?_
  rintro e w19 ⟨⟨A2, a2, rfl, hB⟩, k19⟩
  replace RB := RB.kpN k19
  replace FB := FB.kpN k19
  replace K := K.thenN k19 (Nat.le_refl _)
  refine hK _ _ ((hS0 _).2 ⟨RB, FB⟩) ?_
  clear hK K' k19 R1
  iterate 5 (first | (refine wpOrd_v rfl rfl ?_; intro K hK; go_big_quiet_op; go_big_quiet_on) | (refine wpOrd_q rfl rfl ?_; intro K hK; go_big_quiet_op; go_big_quiet_on) | refine wpOrd_s (by decide) rfl rfl ?_)
  refine wpOrd_nil ?_
  clear hevT _hev
  clear cA cB hS0 S
  go_wp2_with fail
  refine (of_any 9900000 9900000 _).mono ?_
  rintro e w20 ⟨rfl, k20⟩
  replace RB := RB.kpN k20
  replace FB := FB.kpN k20
  replace hB := hB.kpN k20
  replace K := K.thenN k20 (Nat.le_refl _)
  clear k20
  go_wp2_with fail
  refine (of_any 8910000 8910000 _).mono ?_
  rintro e w21 ⟨rfl, k21⟩
  replace RB := RB.kpN k21
  replace FB := FB.kpN k21
  replace hB := hB.kpN k21
  replace K := K.thenN k21 (Nat.le_refl _)
  clear k21
  have NB := Blk.new w21 83 #[.int .i64 1, .int .i64 9900000, .int .i64 9900000, .int .i64 2, .int .i64 8910000, .int .i64 8910000]
  have m21 := (Kp.refl w21.heap.size none w21).alloc (Nat.le_refl _) (.cells #[.int .i64 1, .int .i64 9900000, .int .i64 9900000, .int .i64 2, .int .i64 8910000, .int .i64 8910000] 83)
  have R9 : Rd none _ 3 encBlow (some ⟨w21.heap.size, 0, none⟩) exBlows.length exBlows := Rd.of_blk (sz := 3) (enc := encBlow) exBlows (fun _ => rfl) rfl NB none (by simp)
  replace RB := RB.kpN m21
  replace FB := FB.kpN m21
  replace hB := hB.kpN m21
  replace K := K.thenN m21 (Nat.le_refl _)
  clear m21 NB
  go_wp2_with fail
  refine (kit_SameBlows_any A2 (some ⟨w21.heap.size, 0, none⟩) a2 2 exBlows exBlows _ hB R9 (by decide)).mono ?_
  rintro e w22 ⟨⟨b9, rfl, hbb⟩, k22⟩
  obtain rfl : b9 = true := hbb.2 rfl
  replace RB := RB.kpN k22
  replace FB := FB.kpN k22
  replace K := K.thenN k22 (Nat.le_refl _)
  clear k22 hB R9 hbb
  go_wp2_with fail
  refine (crater_ex _).mono ?_
  rintro e w23 ⟨rfl, k23⟩
  replace RB := RB.kpN k23
  replace FB := FB.kpN k23
  replace K := K.thenN k23 (Nat.le_refl _)
  clear k23
  go_wp2_with fail
  refine (law_grades_any _).mono ?_
  rintro e w24 ⟨⟨A3, a3, rfl, R3⟩, k24⟩
  replace RB := RB.kpN k24
  replace FB := FB.kpN k24
  replace K := K.thenN k24 (Nat.le_refl _)
  clear k24
  go_wp2_with fail
  refine (reach_ex1 A3 a3 _ R3).mono ?_
  rintro e w25 ⟨rfl, k25⟩
  replace RB := RB.kpN k25
  replace FB := FB.kpN k25
  replace K := K.thenN k25 (Nat.le_refl _)
  clear k25 R3
  go_wp2_with fail
  refine (law_grades_any _).mono ?_
  rintro e w26 ⟨⟨A3, a3, rfl, R3⟩, k26⟩
  replace RB := RB.kpN k26
  replace FB := FB.kpN k26
  replace K := K.thenN k26 (Nat.le_refl _)
  clear k26
  go_wp2_with fail
  refine (reach_ex2 A3 a3 _ R3).mono ?_
  rintro e w27 ⟨rfl, k27⟩
  replace RB := RB.kpN k27
  replace FB := FB.kpN k27
  replace K := K.thenN k27 (Nat.le_refl _)
  clear k27 R3
  go_wp2_with fail
  refine (law_grades_any _).mono ?_
  rintro e w28 ⟨⟨A3, a3, rfl, R3⟩, k28⟩
  replace RB := RB.kpN k28
  replace FB := FB.kpN k28
  replace K := K.thenN k28 (Nat.le_refl _)
  clear k28
  go_wp2_with fail
  refine (reach_ex3 A3 a3 _ R3).mono ?_
  rintro e w29 ⟨rfl, k29⟩
  replace RB := RB.kpN k29
  replace FB := FB.kpN k29
  replace K := K.thenN k29 (Nat.le_refl _)
  clear k29 R3
  go_wp2_with fail
  refine (law_land_any _).mono ?_
  rintro e w30 ⟨⟨A4, a4, A5, a5, rfl, R4, R5, hc⟩, k30⟩
  replace RB := RB.kpN k30
  replace FB := FB.kpN k30
  replace K := K.thenN k30 (Nat.le_refl _)
  clear k30
  go_wp2_with fail
  refine (harm_ex2 A4 A5 a4 a5 _ R4 hc).mono ?_
  rintro e w31 ⟨rfl, k31⟩
  replace RB := RB.kpN k31
  replace FB := FB.kpN k31
  replace K := K.thenN k31 (Nat.le_refl _)
  clear k31 R4 R5 hc
  go_wp2_with fail
  refine (law_land_any _).mono ?_
  rintro e w32 ⟨⟨A4, a4, A5, a5, rfl, R4, R5, hc⟩, k32⟩
  replace RB := RB.kpN k32
  replace FB := FB.kpN k32
  replace K := K.thenN k32 (Nat.le_refl _)
  clear k32
  go_wp2_with fail
  refine (wave_ex2 A4 A5 a4 a5 _ R4 R5 hc).mono ?_
  rintro e w33 ⟨rfl, k33⟩
  replace RB := RB.kpN k33
  replace FB := FB.kpN k33
  replace K := K.thenN k33 (Nat.le_refl _)
  clear k33 R4 R5 hc
  go_wp2_with fail
  refine (law_land_any _).mono ?_
  rintro e w34 ⟨⟨A4, a4, A5, a5, rfl, R4, R5, hc⟩, k34⟩
  replace RB := RB.kpN k34
  replace FB := FB.kpN k34
  replace K := K.thenN k34 (Nat.le_refl _)
  clear k34
  go_wp2_with fail
  refine (wave_ex3 A4 A5 a4 a5 _ R4 R5 hc).mono ?_
  rintro e w35 ⟨rfl, k35⟩
  replace RB := RB.kpN k35
  replace FB := FB.kpN k35
  replace K := K.thenN k35 (Nat.le_refl _)
  clear k35 R4 R5 hc
  go_wp2_with fail
  refine (law_air_any _).mono ?_
  rintro e w36 ⟨⟨A1, a1, rfl, R1⟩, k36⟩
  replace RB := RB.kpN k36
  replace FB := FB.kpN k36
  replace K := K.thenN k36 (Nat.le_refl _)
  clear k36
  go_wp2_with fail
  refine (law_grades_any _).mono ?_
  rintro e w37 ⟨⟨A3, a3, rfl, R3⟩, k37⟩
  replace R1 := R1.kpN k37
  replace RB := RB.kpN k37
  replace FB := FB.kpN k37
  replace K := K.thenN k37 (Nat.le_refl _)
  clear k37
  go_wp2_with fail
  refine (law_land_any _).mono ?_
  rintro e w38 ⟨⟨A4, a4, A5, a5, rfl, R4, R5, hc⟩, k38⟩
  replace R1 := R1.kpN k38
  replace R3 := R3.kpN k38
  replace RB := RB.kpN k38
  replace FB := FB.kpN k38
  replace K := K.thenN k38 (Nat.le_refl _)
  clear k38
  go_wp2_with fail
  refine (harms_ex1 A1 a1 A3 a3 A4 A5 a4 a5 _ R1 R3 R4 R5 hc).mono ?_
  rintro e w39 ⟨rfl, k39⟩
  replace RB := RB.kpN k39
  replace FB := FB.kpN k39
  replace K := K.thenN k39 (Nat.le_refl _)
  clear k39 R1 R3 R4 R5 hc
  go_wp2_with fail
  refine (law_air_any _).mono ?_
  rintro e w40 ⟨⟨A1, a1, rfl, R1⟩, k40⟩
  replace RB := RB.kpN k40
  replace FB := FB.kpN k40
  replace K := K.thenN k40 (Nat.le_refl _)
  clear k40
  go_wp2_with fail
  refine (law_grades_any _).mono ?_
  rintro e w41 ⟨⟨A3, a3, rfl, R3⟩, k41⟩
  replace R1 := R1.kpN k41
  replace RB := RB.kpN k41
  replace FB := FB.kpN k41
  replace K := K.thenN k41 (Nat.le_refl _)
  clear k41
  go_wp2_with fail
  refine (law_land_any _).mono ?_
  rintro e w42 ⟨⟨A4, a4, A5, a5, rfl, R4, R5, hc⟩, k42⟩
  replace R1 := R1.kpN k42
  replace R3 := R3.kpN k42
  replace RB := RB.kpN k42
  replace FB := FB.kpN k42
  replace K := K.thenN k42 (Nat.le_refl _)
  clear k42
  go_wp2_with fail
  refine (harms_ex2 A1 a1 A3 a3 A4 A5 a4 a5 _ R1 R3 R4 R5 hc).mono ?_
  rintro e w43 ⟨rfl, k43⟩
  replace RB := RB.kpN k43
  replace FB := FB.kpN k43
  replace K := K.thenN k43 (Nat.le_refl _)
  clear k43 R1 R3 R4 R5 hc
  go_wp2_with fail
  refine (law_air_any _).mono ?_
  rintro e w44 ⟨⟨A1, a1, rfl, R1⟩, k44⟩
  replace RB := RB.kpN k44
  replace FB := FB.kpN k44
  replace K := K.thenN k44 (Nat.le_refl _)
  clear k44
  go_wp2_with fail
  refine (law_grades_any _).mono ?_
  rintro e w45 ⟨⟨A3, a3, rfl, R3⟩, k45⟩
  replace R1 := R1.kpN k45
  replace RB := RB.kpN k45
  replace FB := FB.kpN k45
  replace K := K.thenN k45 (Nat.le_refl _)
  clear k45
  go_wp2_with fail
  refine (law_land_any _).mono ?_
  rintro e w46 ⟨⟨A4, a4, A5, a5, rfl, R4, R5, hc⟩, k46⟩
  replace R1 := R1.kpN k46
  replace R3 := R3.kpN k46
  replace RB := RB.kpN k46
  replace FB := FB.kpN k46
  replace K := K.thenN k46 (Nat.le_refl _)
  clear k46
  go_wp2_with fail
  refine (harms_ex3 A1 a1 A3 a3 A4 A5 a4 a5 _ R1 R3 R4 R5 hc).mono ?_
  rintro e w47 ⟨rfl, k47⟩
  replace RB := RB.kpN k47
  replace FB := FB.kpN k47
  replace K := K.thenN k47 (Nat.le_refl _)
  clear k47 R1 R3 R4 R5 hc
  go_upto_region 21 with (fail)
  obtain ⟨wb, hwb⟩ : ∃ q, q = w47 := ⟨_, rfl⟩
  rw [← hwb] at RB FB K ⊢
  clear hwb
  have hbw := hb.kpN K
  refine wp_region_inv (Γ := G11) [none, none, none, none, none, none, some 11, none, none, none, none, none, none, none, none, none, none, none, none, none, none, none, some 9, none, none, none, none, none, none, none, none, none, none, none, none, none, none, none, none, none, none, none, none, none, none, none, none, none, none, none, none, none, none, none, none, none, none, none, none, none, none, none, none, none, none, none, none, none, none, none, none, none, none, none, none, none, none, none, none, none, none, none, none, none, none, none, none, none, none, none, none, none, none, none, none, none, none, none, none, none, none, none, none, none, none, none, none, none, none, none, none, none, none, none, none, none, none, none, none, none, none, none, none, none, none, none, none, none, none, none, none, none, none, none, none, none, none, none, none, none, none, none, none, none, none, none, none, none, none, none, none, none, none, none, none, none, none, none, none, none, none, none, none, none, none, none, none, none, none, none, none, none, none, none, none, none, some 6, some 0, some 1, some 2, some 3, some 4, some 5, some 7, some 8] [[], [0], [0, 1], [], [], [0, 1, 2, 3, 4], [0, 1, 2, 3, 4, 5], [0, 1, 2, 3, 4, 5, 6], [0, 1, 2, 3, 4, 5, 6], [], [0, 1, 2, 3, 4, 5, 6, 7, 9], [0, 1, 2, 3, 4, 5, 6, 7, 8, 9, 10]] [[3, 4, 9], [0, 3, 4, 9], [0, 1, 3, 4, 9], [0, 1, 2, 4, 9], [0, 1, 2, 3, 9], [0, 1, 2, 3, 4, 9], [0, 1, 2, 3, 4, 5, 9], [0, 1, 2, 3, 4, 5, 6, 8, 9], [0, 1, 2, 3, 4, 5, 6, 7, 9, 10], [0, 1, 2, 3, 4, 5, 6, 7, 8], [0, 1, 2, 3, 4, 5, 6, 7, 8, 9], [0, 1, 2, 3, 4, 5, 6, 7, 8, 9, 10]] (fun γ => [.slice γ.A1 exAir.length γ.a1, .slice γ.A3 exGrades.length γ.a3, .agg #[.slice γ.A4 exPeople.length γ.a4, .slice γ.A5 exWater.length γ.a5], .agg #[.int .i64 10, .int .i64 10, .int .i64 1000, .int .i64 1000, .int .i64 50000, .int .i64 1000000, .int .i64 0, .int .i64 0, .int .i64 1000, .int .i64 1000, .bool false], .agg #[.int .i64 100, .int .i64 100, .int .i64 1000, .int .i64 1000], .tuple #[.agg #[.int .i64 30, .int .i64 100], .int .i64 0], .tuple #[.agg #[.int .i64 30, .int .i64 100], .int .i64 0], .agg #[.int .i64 30, .int .i64 100], .int .i64 0, .pointer (some ⟨γ.bx, 0, none⟩), undef, .int .i64 0]) (fun γ => [none, none, none, none, none, none, some (.int .i64 0), none, none, none, none, none, none, none, none, none, none, none, none, none, none, none, some (.pointer (some ⟨γ.bx, 0, none⟩)), none, none, none, none, none, none, none, none, none, none, none, none, none, none, none, none, none, none, none, none, none, none, none, none, none, none, none, none, none, none, none, none, none, none, none, none, none, none, none, none, none, none, none, none, none, none, none, none, none, none, none, none, none, none, none, none, none, none, none, none, none, none, none, none, none, none, none, none, none, none, none, none, none, none, none, none, none, none, none, none, none, none, none, none, none, none, none, none, none, none, none, none, none, none, none, none, none, none, none, none, none, none, none, none, none, none, none, none, none, none, none, none, none, none, none, none, none, none, none, none, none, none, none, none, none, none, none, none, none, none, none, none, none, none, none, none, none, none, none, none, none, none, none, none, none, none, none, none, none, none, none, none, none, some (.tuple #[.agg #[.int .i64 30, .int .i64 100], .int .i64 0]), some (.slice γ.A1 exAir.length γ.a1), some (.slice γ.A3 exGrades.length γ.a3), some (.agg #[.slice γ.A4 exPeople.length γ.a4, .slice γ.A5 exWater.length γ.a5]), some (.agg #[.int .i64 10, .int .i64 10, .int .i64 1000, .int .i64 1000, .int .i64 50000, .int .i64 1000000, .int .i64 0, .int .i64 0, .int .i64 1000, .int .i64 1000, .bool false]), some (.agg #[.int .i64 100, .int .i64 100, .int .i64 1000, .int .i64 1000]), some (.tuple #[.agg #[.int .i64 30, .int .i64 100], .int .i64 0]), some (.agg #[.int .i64 30, .int .i64 100]), some (.int .i64 0)]) ?A21_1 (fun n D γ w => (D 5 = false → γ.done = false) ∧ Kp wb.heap.size none wb w) (fun k γ w => match k with | 0 => γ.done = true ∨ Rd none w 2 encLayer γ.A1 exAir.length exAir | 1 => γ.done = true ∨ Rd none w 2 encGrade γ.A3 exGrades.length exGrades | 2 => γ.done = true ∨ (Rd none w 1 encI γ.A4 exPeople.length exPeople ∧ Rd none w 1 encB γ.A5 exWater.length exWater ∧ exPeople.length ≤ γ.a4) | 5 => γ.done = true | 9 => wb.heap.size ≤ γ.bx ∧ ∃ v v', Blk w γ.bx 26 #[v, v'] | 10 => wb.heap.size ≤ γ.bx ∧ Blk w γ.bx 26 #[.int .i64 30, .int .i64 100] | _ => True) ⟨none, 0, none, 0, none, 0, none, 0, 0, false⟩ (by kernel_rfl) (fun _ => rfl) ?hA21_1 (by kernel_rfl) ?hB021_1 ?hop21_1 ?hend21_1
  case hA21_1 => intro γ; dsimp only [fullV]; rfl
  case hB021_1 =>
    exact ⟨fun _ => rfl, (Kp.refl _ _ _).drew⟩
  case hop21_1 =>
    intro hA
    refine ⟨?_, ?_, ?_, ?_, ?_, ?_, ?_, ?_, ?_, ?_, ?_, ?_, trivial⟩
    · refine opOk_l hA (fun _ => rfl) ?_
      intro n D γ w hn hD hB hU K hK
      try dsimp only at hB
      clear hU
      replace hn : n < 12 := hn
      try dsimp only
      go_step
      refine (law_air_any _).mono ?_
      rintro e w5 ⟨⟨A1, a1, rfl, R1⟩, k5⟩
      have s9 : (wb.heap.size ≤ γ.bx ∧ ∃ v v', Blk w γ.bx 26 #[v, v']) → wb.heap.size ≤ γ.bx ∧ ∃ v v', Blk w5 γ.bx 26 #[v, v'] := fun h => ⟨h.1, h.2.imp fun _ h => h.imp fun _ h => h.kpN k5⟩
      refine hK _ _ { γ with A1 := A1, a1 := a1 } rfl ⟨fun k => hB.1 (by simpa using k), hB.2.thenN k5 (Nat.le_refl _)⟩ (.inr R1) ?_
      try dsimp only [allP, List.getD_cons_zero, List.getD_cons_succ]
      (repeat' apply And.intro) <;> first | exact rfl | exact trivial | exact id | assumption
    · refine opOk_l hA (fun _ => rfl) ?_
      intro n D γ w hn hD hB hU K hK
      try dsimp only at hB
      replace hU : (γ.done = true ∨ Rd none w 2 encLayer γ.A1 exAir.length exAir) := hU.1
      replace hn : n < 12 := hn
      try dsimp only
      go_step
      refine (law_grades_any _).mono ?_
      rintro e w5 ⟨⟨A3, a3, rfl, R3⟩, k5⟩
      have s9 : (wb.heap.size ≤ γ.bx ∧ ∃ v v', Blk w γ.bx 26 #[v, v']) → wb.heap.size ≤ γ.bx ∧ ∃ v v', Blk w5 γ.bx 26 #[v, v'] := fun h => ⟨h.1, h.2.imp fun _ h => h.imp fun _ h => h.kpN k5⟩
      have s0 : (γ.done = true ∨ Rd none w 2 encLayer γ.A1 exAir.length exAir) → γ.done = true ∨ Rd none w5 2 encLayer γ.A1 exAir.length exAir := fun h => h.imp id fun h => h.kpN k5
      refine hK _ _ { γ with A3 := A3, a3 := a3 } rfl ⟨fun k => hB.1 (by simpa using k), hB.2.thenN k5 (Nat.le_refl _)⟩ (.inr R3) ?_
      try dsimp only [allP, List.getD_cons_zero, List.getD_cons_succ]
      (repeat' apply And.intro) <;> first | exact rfl | exact trivial | exact id | assumption
    · refine opOk_l hA (fun _ => rfl) ?_
      intro n D γ w hn hD hB hU K hK
      try dsimp only at hB
      replace hU : (γ.done = true ∨ Rd none w 2 encLayer γ.A1 exAir.length exAir) ∧ (γ.done = true ∨ Rd none w 2 encGrade γ.A3 exGrades.length exGrades) := ⟨hU.1, hU.2.1⟩
      replace hn : n < 12 := hn
      try dsimp only
      go_step
      refine (law_land_any _).mono ?_
      rintro e w5 ⟨⟨A4, a4, A5, a5, rfl, R4, R5, hc⟩, k5⟩
      have s9 : (wb.heap.size ≤ γ.bx ∧ ∃ v v', Blk w γ.bx 26 #[v, v']) → wb.heap.size ≤ γ.bx ∧ ∃ v v', Blk w5 γ.bx 26 #[v, v'] := fun h => ⟨h.1, h.2.imp fun _ h => h.imp fun _ h => h.kpN k5⟩
      have s0 : (γ.done = true ∨ Rd none w 2 encLayer γ.A1 exAir.length exAir) → γ.done = true ∨ Rd none w5 2 encLayer γ.A1 exAir.length exAir := fun h => h.imp id fun h => h.kpN k5
      have s1 : (γ.done = true ∨ Rd none w 2 encGrade γ.A3 exGrades.length exGrades) → γ.done = true ∨ Rd none w5 2 encGrade γ.A3 exGrades.length exGrades := fun h => h.imp id fun h => h.kpN k5
      refine hK _ _ { γ with A4 := A4, a4 := a4, A5 := A5, a5 := a5 } rfl ⟨fun k => hB.1 (by simpa using k), hB.2.thenN k5 (Nat.le_refl _)⟩ (.inr ⟨R4, R5, hc⟩) ?_
      try dsimp only [allP, List.getD_cons_zero, List.getD_cons_succ]
      (repeat' apply And.intro) <;> first | exact rfl | exact trivial | exact id | assumption
    · refine opOk_v hA (fun _ => rfl) (fun _ _ => trivial) ?_ ?_
      · intro n D γ w hn h
        replace hn : n < 12 := hn
        try dsimp only at h
        exact ⟨fun k => h.1 (by simpa using k), h.2⟩
      intro n D γ w hB hU K hK
      try dsimp only at hB
      try dsimp only
      have RB' := RB.kpN hB.2
      have FB' := FB.kpN hB.2
      have d1 := fun i => RB'.cell i
      have d2 := fun i => FB'.cell i
      clear hB hU
      go_step
      exact hK _ rfl
    · refine opOk_v hA (fun _ => rfl) (fun _ _ => trivial) ?_ ?_
      · intro n D γ w hn h
        replace hn : n < 12 := hn
        try dsimp only at h
        exact ⟨fun k => h.1 (by simpa using k), h.2⟩
      intro n D γ w hB hU K hK
      try dsimp only at hB
      try dsimp only
      have RB' := RB.kpN hB.2
      have FB' := FB.kpN hB.2
      have d1 := fun i => RB'.cell i
      have d2 := fun i => FB'.cell i
      clear hB hU
      go_step
      exact hK _ rfl
    · refine opOk_l hA (fun _ => rfl) ?_
      intro n D γ w hn hD hB hU K hK
      try dsimp only at hB
      replace hU : (γ.done = true ∨ Rd none w 2 encLayer γ.A1 exAir.length exAir) ∧ (γ.done = true ∨ Rd none w 2 encGrade γ.A3 exGrades.length exGrades) ∧ (γ.done = true ∨ (Rd none w 1 encI γ.A4 exPeople.length exPeople ∧ Rd none w 1 encB γ.A5 exWater.length exWater ∧ exPeople.length ≤ γ.a4)) := ⟨hU.1, hU.2.1, hU.2.2.1⟩
      replace hn : n < 12 := hn
      try dsimp only
      have hnd := hB.1 hD
      obtain ⟨h0, h1, h2⟩ := hU
      replace h0 := h0.resolve_left (by rw [hnd]; exact Bool.false_ne_true)
      replace h1 := h1.resolve_left (by rw [hnd]; exact Bool.false_ne_true)
      obtain ⟨h2, h3, h4⟩ := h2.resolve_left (by rw [hnd]; exact Bool.false_ne_true)
      go_step
      refine (toll_ex γ.A1 γ.a1 γ.A3 γ.a3 γ.A4 γ.A5 γ.a4 γ.a5 _ h0 h1 h2 h3 h4 (hbw.kpN hB.2)).mono ?_
      rintro e w5 ⟨rfl, k5⟩
      have s9 : (wb.heap.size ≤ γ.bx ∧ ∃ v v', Blk w γ.bx 26 #[v, v']) → wb.heap.size ≤ γ.bx ∧ ∃ v v', Blk w5 γ.bx 26 #[v, v'] := fun h => ⟨h.1, h.2.imp fun _ h => h.imp fun _ h => h.kpN k5⟩
      refine hK _ _ { γ with done := true } rfl ⟨fun k => by simp at k, hB.2.thenN k5 (Nat.le_refl _)⟩ rfl ?_
      try dsimp only [allP, List.getD_cons_zero, List.getD_cons_succ]
      (repeat' apply And.intro) <;> first | exact rfl | exact trivial | exact id | assumption | exact fun _ => .inl rfl
    · refine opOk_v hA (fun _ => rfl) (fun _ _ => trivial) ?_ ?_
      · intro n D γ w hn h
        replace hn : n < 12 := hn
        try dsimp only at h
        exact ⟨fun k => h.1 (by simpa using k), h.2⟩
      intro n D γ w hB hU K hK
      try dsimp only at hB
      try dsimp only
      clear hB hU
      go_step
      exact hK _ rfl
    · refine opOk_v hA (fun _ => rfl) (fun _ _ => trivial) ?_ ?_
      · intro n D γ w hn h
        replace hn : n < 12 := hn
        try dsimp only at h
        exact ⟨fun k => h.1 (by simpa using k), h.2⟩
      intro n D γ w hB hU K hK
      try dsimp only at hB
      try dsimp only
      clear hB hU
      go_step
      exact hK _ rfl
    · refine opOk_v hA (fun _ => rfl) (fun _ _ => trivial) ?_ ?_
      · intro n D γ w hn h
        replace hn : n < 12 := hn
        try dsimp only at h
        exact ⟨fun k => h.1 (by simpa using k), h.2⟩
      intro n D γ w hB hU K hK
      try dsimp only at hB
      try dsimp only
      clear hB hU
      go_step
      exact hK _ rfl
    · refine opOk_l hA (fun _ => rfl) ?_
      intro n D γ w hn hD hB hU K hK
      try dsimp only at hB
      clear hU
      replace hn : n < 12 := hn
      try dsimp only
      go_step
      have k5 := (Kp.refl w.heap.size none w).alloc (Nat.le_refl _) (.cells #[.int .i64 0, .int .i64 0] 26)
      have s0 : (γ.done = true ∨ Rd none w 2 encLayer γ.A1 exAir.length exAir) → γ.done = true ∨ Rd none (w.alloc (.cells #[.int .i64 0, .int .i64 0] 26)) 2 encLayer γ.A1 exAir.length exAir := fun h => h.imp id fun h => h.kpN k5
      have s1 : (γ.done = true ∨ Rd none w 2 encGrade γ.A3 exGrades.length exGrades) → γ.done = true ∨ Rd none (w.alloc (.cells #[.int .i64 0, .int .i64 0] 26)) 2 encGrade γ.A3 exGrades.length exGrades := fun h => h.imp id fun h => h.kpN k5
      have s2 : (γ.done = true ∨ (Rd none w 1 encI γ.A4 exPeople.length exPeople ∧ Rd none w 1 encB γ.A5 exWater.length exWater ∧ exPeople.length ≤ γ.a4)) → γ.done = true ∨ (Rd none (w.alloc (.cells #[.int .i64 0, .int .i64 0] 26)) 1 encI γ.A4 exPeople.length exPeople ∧ Rd none (w.alloc (.cells #[.int .i64 0, .int .i64 0] 26)) 1 encB γ.A5 exWater.length exWater ∧ exPeople.length ≤ γ.a4) := fun h => h.imp id fun h => ⟨h.1.kpN k5, h.2.1.kpN k5, h.2.2⟩
      refine hK _ _ { γ with bx := w.heap.size } rfl ⟨fun k => hB.1 (by simpa using k), hB.2.alloc hB.2.size _⟩ ⟨hB.2.size, _, _, Blk.new _ _ _⟩ ?_
      try dsimp only [allP, List.getD_cons_zero, List.getD_cons_succ]
      (repeat' apply And.intro) <;> first | exact rfl | exact trivial | exact id | assumption
    · refine opOk_l hA (fun _ => rfl) ?_
      intro n D γ w hn hD hB hU K hK
      try dsimp only at hB
      replace hU : (γ.done = true ∨ Rd none w 2 encLayer γ.A1 exAir.length exAir) ∧ (γ.done = true ∨ Rd none w 2 encGrade γ.A3 exGrades.length exGrades) ∧ (γ.done = true ∨ (Rd none w 1 encI γ.A4 exPeople.length exPeople ∧ Rd none w 1 encB γ.A5 exWater.length exWater ∧ exPeople.length ≤ γ.a4)) ∧ (γ.done = true) ∧ (wb.heap.size ≤ γ.bx ∧ ∃ v v', Blk w γ.bx 26 #[v, v']) := ⟨hU.1, hU.2.1, hU.2.2.1, hU.2.2.2.2.2.1, hU.2.2.2.2.2.2.2.2.1⟩
      replace hn : n < 12 := hn
      try dsimp only
      obtain ⟨-, -, -, hdn, hbx, v, v', hBx⟩ := hU
      have cX := fun i => hBx.cell i
      have fX := fun i => hBx.frozen i
      go_step
      have hF10 := (hBx.set_ 0 (.int .i64 30)).set_ 1 (.int .i64 100)
      refine hK _ _ γ rfl ⟨fun k => hB.1 (by simpa using k), (hB.2.setNew (p := ⟨γ.bx, 0, none⟩) hbx _).setNew (p := ⟨γ.bx, 1, none⟩) hbx _⟩ ⟨hbx, hF10⟩ ?_
      try dsimp only [allP, List.getD_cons_zero, List.getD_cons_succ]
      (repeat' apply And.intro) <;> first | exact rfl | exact trivial | exact id | exact fun _ => .inl hdn | exact fun _ => ⟨hbx, _, _, hF10⟩
    · refine opOk_v hA (fun _ => rfl) (fun _ _ => trivial) ?_ ?_
      · intro n D γ w hn h
        replace hn : n < 12 := hn
        try dsimp only at h
        exact ⟨fun k => h.1 (by simpa using k), h.2⟩
      intro n D γ w hB hU K hK
      try dsimp only at hB
      try dsimp only
      clear hB hU
      go_step
      exact hK _ rfl
  case hend21_1 =>
    intro n D γ w hn hD hB hF
    replace hF := fun k (hk : k < 12) => hF k hk
    replace hF := (⟨hF 0 (by decide), hF 1 (by decide), hF 2 (by decide), hF 5 (by decide), hF 9 (by decide), hF 10 (by decide)⟩ : _ ∧ _ ∧ _ ∧ _ ∧ _ ∧ _)
    try dsimp only at hB
    try dsimp only at hF
    replace hn : n ≤ 12 := hn
    try dsimp only
    obtain ⟨-, hBk⟩ := hB
    obtain ⟨-, -, -, -, -, -, hX⟩ := hF
    obtain ⟨wc, hwc⟩ : ∃ u, u = w := ⟨_, rfl⟩
    rw [← hwc] at hBk hX ⊢
    rename G11 => G
    obtain ⟨A1, a1, A3, a3, A4, a4, A5, a5, bx, dn⟩ := G
    dsimp only at *
    clear hwc hD
    replace RB := (RB.kpN hBk).drew
    replace FB := (FB.kpN hBk).drew
    replace K := (K.thenN hBk (Nat.le_refl _)).drew
    replace hX := Blk.drew hX
    clear hBk hbw
    go_upto_region 22 with (fail)
    obtain ⟨S, hS⟩ : ∃ S : Nat → World → Prop, S = fun _ w' => Blk w' b3 28 #[.int .i64 10, .int .i64 10, .int .i64 1000, .int .i64 1000, .int .i64 50000, .int .i64 1000000, .int .i64 0, .int .i64 0, .int .i64 1000, .int .i64 1000, .bool false] ∧ Blk w' (b3 + 1) 30 #[.int .i64 100, .int .i64 100, .int .i64 1000, .int .i64 1000] := ⟨_, rfl⟩
    have hS0 : ∀ w', S 0 w' ↔ (Blk w' b3 28 #[.int .i64 10, .int .i64 10, .int .i64 1000, .int .i64 1000, .int .i64 50000, .int .i64 1000000, .int .i64 0, .int .i64 0, .int .i64 1000, .int .i64 1000, .bool false] ∧ Blk w' (b3 + 1) 30 #[.int .i64 100, .int .i64 100, .int .i64 1000, .int .i64 1000]) := fun w' => by rw [hS]
    clear hS
    have cA := fun (q : Ev (S 0)) i => ((hS0 _).1 q.h).1.cell i
    have cB := fun (q : Ev (S 0)) i => ((hS0 _).1 q.h).2.cell i
    have hevT := ev_true
    refine wp_region_ord S [(3, 1), (4, 1), (0, 2), (1, 2), (2, 2), (5, 2), (6, 0), (7, 0), (8, 0), (9, 0), (10, 0)] [] (by kernel_rfl) (by kernel_rfl) ((hS0 _).2 ⟨RB, FB⟩) ?_
    intro _hev
    iterate 2 (first | (refine wpOrd_v rfl rfl ?_; intro K hK; go_big_quiet_op; go_big_quiet_on) | (refine wpOrd_q rfl rfl ?_; intro K hK; go_big_quiet_op; go_big_quiet_on) | refine wpOrd_s (by decide) rfl rfl ?_)
    refine wpOrd_l rfl rfl ?_; intro K' hK
    go_step
    refine (law_air_any _).mono ?_
    rintro e w60 ⟨⟨A1, a1, rfl, R1⟩, k60⟩
    replace RB := RB.kpN k60
    replace FB := FB.kpN k60
    replace hX := hX.kpN k60
    replace K := K.thenN k60 (Nat.le_refl _)
    refine hK _ _ ((hS0 _).2 ⟨RB, FB⟩) ?_
    clear hK K' k60
    refine wpOrd_l rfl rfl ?_; intro K' hK
    go_step
    refine (law_grades_any _).mono ?_
    rintro e w61 ⟨⟨A3, a3, rfl, R3⟩, k61⟩
    replace R1 := R1.kpN k61
    replace RB := RB.kpN k61
    replace FB := FB.kpN k61
    replace hX := hX.kpN k61
    replace K := K.thenN k61 (Nat.le_refl _)
    refine hK _ _ ((hS0 _).2 ⟨RB, FB⟩) ?_
    clear hK K' k61
    refine wpOrd_l rfl rfl ?_; intro K' hK
    go_step
    refine (law_land_any _).mono ?_
    rintro e w62 ⟨⟨A4, a4, A5, a5, rfl, R4, R5, hc⟩, k62⟩
    replace R1 := R1.kpN k62
    replace R3 := R3.kpN k62
    replace RB := RB.kpN k62
    replace FB := FB.kpN k62
    replace hX := hX.kpN k62
    replace K := K.thenN k62 (Nat.le_refl _)
    refine hK _ _ ((hS0 _).2 ⟨RB, FB⟩) ?_
    clear hK K' k62
    refine wpOrd_l rfl rfl ?_; intro K' hK
    go_step
    refine (worst_ex A1 a1 A3 a3 A4 A5 a4 a5 _ R1 R3 R4 R5 hc (hb.kpN K)).mono ?_
    rintro e w63 ⟨rfl, k63⟩
    replace RB := RB.kpN k63
    replace FB := FB.kpN k63
    replace hX := hX.kpN k63
    replace K := K.thenN k63 (Nat.le_refl _)
    refine hK _ _ ((hS0 _).2 ⟨RB, FB⟩) ?_
    clear hK K' k63 R1 R3 R4 R5 hc
    iterate 5 (first | (refine wpOrd_v rfl rfl ?_; intro K hK; go_big_quiet_op; go_big_quiet_on) | (refine wpOrd_q rfl rfl ?_; intro K hK; go_big_quiet_op; go_big_quiet_on) | refine wpOrd_s (by decide) rfl rfl ?_)
    refine wpOrd_nil ?_
    clear hevT _hev
    clear cA cB hS0 S RB FB
    go_upto_region 23 with (fail)
    replace hX := hX.drew
    replace K := K.drew
    obtain ⟨S, hS⟩ : ∃ S : Nat → World → Prop, S = fun _ w' => Blk w' bx 26 #[.int .i64 30, .int .i64 100] := ⟨_, rfl⟩
    have hS0 : ∀ w', S 0 w' ↔ (Blk w' bx 26 #[.int .i64 30, .int .i64 100]) := fun w' => by rw [hS]
    clear hS
    have cA := fun (q : Ev (S 0)) i => ((hS0 _).1 q.h).cell i
    have hevT := ev_true
    refine wp_region_ord S [(0, 0), (1, 0), (2, 0), (3, 0), (4, 0), (5, 0), (6, 0), (7, 0), (8, 0), (9, 0), (10, 0), (11, 0), (12, 0), (13, 0), (14, 0), (15, 0), (16, 0), (17, 1), (18, 2), (19, 0), (20, 0), (21, 0), (22, 0), (23, 0), (24, 0), (25, 0), (26, 0), (27, 0), (28, 0), (29, 0), (30, 0), (31, 0), (32, 0), (33, 0)] [] (by kernel_rfl) (by kernel_rfl) ((hS0 _).2 hX) ?_
    intro _hev
    iterate 18 (first | (refine wpOrd_v rfl rfl ?_; intro K hK; go_big_quiet_op; go_big_quiet_on) | (refine wpOrd_q rfl rfl ?_; intro K hK; go_big_quiet_op; go_big_quiet_on) | refine wpOrd_s (by decide) rfl rfl ?_)
    refine wpOrd_l rfl rfl ?_; intro K' hK
    go_step
    refine (of_any 30 100 _).mono ?_
    rintro e w64 ⟨rfl, k64⟩
    replace hX := hX.kpN k64
    replace K := K.thenN k64 (Nat.le_refl _)
    refine hK _ _ ((hS0 _).2 hX) ?_
    clear hK K' k64
    iterate 15 (first | (refine wpOrd_v rfl rfl ?_; intro K hK; go_big_quiet_op; go_big_quiet_on) | (refine wpOrd_q rfl rfl ?_; intro K hK; go_big_quiet_op; go_big_quiet_on) | refine wpOrd_s (by decide) rfl rfl ?_)
    refine wpOrd_nil ?_
    clear hevT _hev
    clear cA hS0 S hX
    go_wp2
    exact bodyPost_ret (v := .bool true) (by simp [results, Tryd.results15, go_sem]) rfl ⟨rfl, K⟩
end Go.Proofs.YtdiigflbohbndaaDoor
