/- Levels of chances: the walk. -/
import Derived.Test.YtogpgnljomchcaaCog
import Derived.Test.YtogpgnljomchcaaCrd
namespace Go.Proofs.Ytogpgnljomchcaa
open Go.RowKit

structure ChOk (x : Chance) : Prop where
  l0 : 0 ≤ x.least
  lm : x.least ≤ x.most
  ma : x.most ≤ x.all
  a1 : 1 ≤ x.all
  a2 : x.all ≤ 1000
theorem ChOk.err {x : Chance} (h : ChOk x) : chanceErr x = 0 := by
  have := h.l0; have := h.lm; have := h.ma; have := h.a1; have := h.a2
  unfold chanceErr
  rw [if_neg (by omega)]
set_option maxHeartbeats 1000000 in
theorem chanceOf_any (g : Nat) (nums : List Int) (k : Nat) (w : World) (h : RingAt w g nums k) (hk : k ≤ 900000) :
    Calls Try.prog 22 #[.pointer (some ⟨g, 0, none⟩)] w (RPost g nums (k + 3) w fun v => ∃ x : Chance, v = .agg #[.int .i64 x.least, .int .i64 x.most, .int .i64 x.all] ∧ ChOk x) := by
  have Z0 := Blk.new w 29 #[.int .i64 0, .int .i64 0, .int .i64 0]
  have K0 := (Kp.new w (.cells #[.int .i64 0, .int .i64 0, .int .i64 0] 29)).wide (some g)
  have R0 := h.alloc (.cells #[.int .i64 0, .int .i64 0, .int .i64 0] 29)
  have hg := h.lt
  clear h
  go_enter Try.func22, Try.ntmps22
  go_upto_region 1 with (fail)
  obtain ⟨b, hb⟩ : ∃ q, q = w.heap.size := ⟨_, rfl⟩
  rw [← hb] at Z0 ⊢
  have hbw : w.heap.size ≤ b := by omega
  have hgb : g < b := by omega
  have hne : some b ≠ some g := sne (by omega)
  generalize w.alloc (.cells #[.int .i64 0, .int .i64 0, .int .i64 0] 29) = w1 at Z0 K0 R0 ⊢
  clear hb
  go_wp2_with fail
  refine (range_any g nums _ 1 1000 _ R0 (by omega) (by omega) (by omega) (by omega) (by omega)).mono ?_
  rintro e w2 ⟨v, rfl, ⟨a, rfl, p1, q1⟩, R1, k1⟩
  replace Z0 := Z0.kp k1 Z0.lt hne
  replace K0 := K0.then_ k1 (Nat.le_refl _)
  clear k1 R0
  go_wp2_with fail
  refine (range_any g nums _ 0 a _ R1 (by omega) (by omega) (by omega) (by omega) (by omega)).mono ?_
  rintro e w3 ⟨v, rfl, ⟨m, rfl, p2, q2⟩, R2, k1⟩
  replace Z0 := Z0.kp k1 Z0.lt hne
  replace K0 := K0.then_ k1 (Nat.le_refl _)
  clear k1 R1
  go_wp2_with fail
  refine (range_any g nums _ 0 m _ R2 (by omega) (by omega) (by omega) (by omega) (by omega)).mono ?_
  rintro e w4 ⟨v, rfl, ⟨l, rfl, p3, q3⟩, R3, k1⟩
  replace Z0 := Z0.kp k1 Z0.lt hne
  replace K0 := K0.then_ k1 (Nat.le_refl _)
  clear k1 R2
  have cz := fun i => Z0.cell i
  have fz := fun i => Z0.frozen i
  go_wp2_with fail
  refine bodyPost_ret (v := .agg #[.int .i64 l, .int .i64 m, .int .i64 a]) (by simp [results, Try.results22, go_sem, cz]) rfl ⟨_, rfl, ⟨⟨l, m, a⟩, rfl, ⟨p3, q3, q2, p1, q1⟩⟩, ?_, ?_⟩
  · iterate 3 refine RingAt.big ?_ hgb _
    exact R3
  · iterate 3 refine Kp.setNew ?_ hbw _
    exact K0
theorem filter_mono {α : Type} {p q : α → Bool} : ∀ {l : List α}, (∀ x ∈ l, p x = true → q x = true) → (l.filter p).length ≤ (l.filter q).length
  | [], _ => by simp
  | x :: r, h => by
    have ih := filter_mono (l := r) fun y hy => h y (by simp [hy])
    have hx := h x (by simp)
    cases hp : p x
    · rw [List.filter_cons_of_neg (by simp [hp])]
      by_cases hq : q x = true
      · rw [List.filter_cons_of_pos hq, List.length_cons]; omega
      · rw [List.filter_cons_of_neg hq]; exact ih
    · rw [List.filter_cons_of_pos hp, List.filter_cons_of_pos (hx hp)]
      simpa using ih
theorem level_more {c : Council} {x y : Chance} (hm : x.most ≤ y.most) (ha : x.all = y.all) : levelOf c x ≤ levelOf c y :=
  filter_mono fun l _ h => by
    unfold reaches at h ⊢
    simp only [decide_eq_true_eq] at h ⊢
    rw [← ha]
    omega
theorem level_wider {c : Council} (hc : CouncilOk c) {x y : Chance} (hm : x.most = y.most) (ha : x.all ≤ y.all) : levelOf c y ≤ levelOf c x :=
  filter_mono fun l hl h => by
    unfold reaches at h ⊢
    simp only [decide_eq_true_eq] at h ⊢
    have h1 : l * x.all ≤ l * y.all := Int.mul_le_mul_of_nonneg_left ha (by have := (hc.lev l hl).1; omega)
    rw [hm]
    omega
theorem levelI_eq {c : Council} {x : Chance} (hc : checkC c = 0) (hx : chanceErr x = 0) : levelI c x = levelOf c x := by
  unfold levelI
  rw [if_pos ⟨hc, hx⟩]
theorem Lo.turn {α : Type} {B g sz n : Nat} {w w' : World} {enc : α → List Value} {A : Option Addr} {xs : List α} (h : Lo B w sz enc A n xs) (k : Kp w.heap.size (some g) w w') (hA : ∀ ad, A = some ad → ad.block ≠ g) : Lo w'.heap.size w' sz enc A n xs := by
  refine ⟨h.1, fun hn => ?_⟩
  obtain ⟨b, o, e, _, hs, hc⟩ := h.2 hn
  have hne : some b ≠ some g := sne (hA _ e)
  exact ⟨b, o, e, Nat.lt_of_lt_of_le hs k.size, Nat.lt_of_lt_of_le hs k.size, fun i hi j v hv => (k.cell b _ hs hne).trans (hc i hi j v hv)⟩
/-- a council's slices lie from a block on -/
def CFar (V : CV) (n : Nat) : Prop := (∀ ad, V.am = some ad → n ≤ ad.block) ∧ (∀ ad, V.al = some ad → n ≤ ad.block) ∧ ∀ ad, V.av = some ad → n ≤ ad.block
theorem CAt.turn {B g n : Nat} {w w' : World} {V : CV} {c : Council} (h : CAt B w V c) (k : Kp w.heap.size (some g) w w') (f : CFar V n) (hg : g < n) : CAt w'.heap.size w' V c :=
  ⟨h.m.turn k (fun ad e => by have := f.1 ad e; omega), h.l.turn k (fun ad e => by have := f.2.1 ad e; omega), h.v.turn k (fun ad e => by have := f.2.2 ad e; omega), h.ms, h.ls, h.vs⟩
set_option maxRecDepth 20000 in
set_option maxHeartbeats 4000000 in
theorem law_CouncilLevels_any (A : Option Addr) (cap : Nat) (nums : List Int) (more wider : Int) (w : World) (h : Rd none w 1 (fun x => [Value.int .i64 x]) A nums.length nums) (hn : nums.length ≤ 17592186044416) :
    Calls Try.prog 4 #[.slice A nums.length cap, .int .i64 more, .int .i64 wider] w fun e w' => e = .returned (.bool true) ∧ Kp w.heap.size none w w' := by
  go_enter Try.func4, Try.ntmps4
  go_wp2_with fail
  refine (newRing_any A cap nums _ h hn).mono ?_
  rintro e w1 ⟨g, rfl, hg, hr, K1⟩
  clear h hn
  go_wp2_with fail
  refine (councilOf_any g nums 0 _ hr (by omega)).mono ?_
  rintro e w2 ⟨V, c, k', rfl, hok, hC, hk', hr2, k2, hf⟩
  have hgw : g < w1.heap.size := hr.lt
  have K2 := K1.thenOwn k2 (Nat.le_refl _) hg
  clear k2 K1 hr
  go_wp2_with fail
  refine (chanceOf_any g nums _ _ hr2 (by omega)).mono ?_
  rintro e w3 ⟨v, rfl, ⟨x, rfl, hx⟩, hr3, k3⟩
  replace hC := hC.turn k3 hf hgw
  replace K2 := K2.thenOwn k3 (Nat.le_refl _) hg
  clear k3 hr2 hr3 hf hgw
  have hce := hok.chk
  have hcc := councilOk_of hce
  go_upto_region 3 with (fail)
  have K3 := (K2.alloc K2.size (.cells #[.slice V.am c.members.length V.cm, .slice V.al c.laws.length V.cl, .slice V.av c.levels.length V.cv] 26)).alloc (by have := K2.size; simp; omega) (.cells #[.int .i64 x.least, .int .i64 x.most, .int .i64 x.all] 29)
  have B8 := (Blk.new w3 26 #[.slice V.am c.members.length V.cm, .slice V.al c.laws.length V.cl, .slice V.av c.levels.length V.cv]).alloc (.cells #[.int .i64 x.least, .int .i64 x.most, .int .i64 x.all] 29)
  have B9 := Blk.newAt (w3.alloc (.cells #[.slice V.am c.members.length V.cm, .slice V.al c.laws.length V.cl, .slice V.av c.levels.length V.cv] 26)) 29 #[.int .i64 x.least, .int .i64 x.most, .int .i64 x.all] (n := w3.heap.size + 1) (by simp)
  replace hC := hC.kpN (Kp.new2 w3 (.cells #[.slice V.am c.members.length V.cm, .slice V.al c.laws.length V.cl, .slice V.av c.levels.length V.cv] 26) (.cells #[.int .i64 x.least, .int .i64 x.most, .int .i64 x.all] 29))
  obtain ⟨b8, hb8⟩ : ∃ q, q = w3.heap.size := ⟨_, rfl⟩
  obtain ⟨b9, hb9⟩ : ∃ q, q = w3.heap.size + 1 := ⟨_, rfl⟩
  rw [← hb9] at B9 ⊢
  rw [← hb8] at B8 hC ⊢
  have hne89 : b8 ≠ b9 := by omega
  have hw8 : w.heap.size ≤ b8 := by have := K2.size; omega
  clear hb8 hb9 K2
  generalize (w3.alloc (.cells #[.slice V.am c.members.length V.cm, .slice V.al c.laws.length V.cl, .slice V.av c.levels.length V.cv] 26)).alloc (.cells #[.int .i64 x.least, .int .i64 x.most, .int .i64 x.all] 29) = w4 at B8 B9 K3 hC ⊢
  have c8 := fun i => B8.cell i
  have c9 := fun i => B9.cell i
  go_wp2_with fail
  refine (council_Level_any x _ V c _ hC).mono ?_
  rintro e w5 ⟨rfl, k5⟩
  replace B8 := B8.kpN k5
  replace B9 := B9.kpN k5
  replace hC := hC.kpN k5
  replace K3 := K3.thenN k5 (Nat.le_refl _)
  clear k5 c8 c9
  have c9 := fun i => B9.cell i
  obtain ⟨N, hN⟩ : ∃ q, q = levelI c x := ⟨_, rfl⟩
  rw [← hN]
  replace hN := Lib.hid hN
  go_upto_region 5 with (fail)
  clear c9
  have Yb11 := Blk.new w5 29 #[.int .i64 x.least, .int .i64 x.most, .int .i64 x.all]
  have KY := Kp.new w5 (.cells #[.int .i64 x.least, .int .i64 x.most, .int .i64 x.all] 29)
  have hwb11 : w.heap.size ≤ w5.heap.size := K3.size
  have lB8 := B8.lt
  have nB8b11 : b8 ≠ w5.heap.size := by omega
  clear lB8
  have lB9 := B9.lt
  have nB9b11 : b9 ≠ w5.heap.size := by omega
  clear lB9
  have gb11 : b8 ≤ w5.heap.size := Nat.le_of_lt B8.lt
  replace B8 := B8.kpN KY
  replace B9 := B9.kpN KY
  replace hC := hC.kpN KY
  replace K3 := K3.thenN KY (Nat.le_refl _)
  clear KY
  obtain ⟨b11, hb11⟩ : ∃ q, q = w5.heap.size := ⟨_, rfl⟩
  rw [← hb11] at Yb11 hwb11 gb11 nB8b11 nB9b11 ⊢
  clear hb11
  generalize World.alloc w5 (.cells #[.int .i64 x.least, .int .i64 x.most, .int .i64 x.all] 29) = w6 at Yb11 B8 B9 K3 hC ⊢
  obtain ⟨m1, hm1⟩ : ∃ q, q = more % 1000 := ⟨_, rfl⟩
  have hm10 : 0 ≤ m1 := by rw [hm1]; exact Int.emod_nonneg _ (by omega)
  have hm11 : m1 < 1000 := by rw [hm1]; exact Int.emod_lt_of_pos _ (by omega)
  obtain ⟨m2, hm2⟩ : ∃ q, q = wider % 1099511627776 := ⟨_, rfl⟩
  have hm20 : 0 ≤ m2 := by rw [hm2]; exact Int.emod_nonneg _ (by omega)
  have hm21 : m2 < 1099511627776 := by rw [hm2]; exact Int.emod_lt_of_pos _ (by omega)
  replace hm1 := Lib.hid hm1
  replace hm2 := Lib.hid hm2
  have hxx := Lib.hid hx
  obtain ⟨hx1, hx2, hx3, hx4, hx5⟩ := hx
  replace Yb11 := Yb11.drew
  replace B8 := B8.drew
  replace B9 := B9.drew
  replace hC := hC.kpN (Kp.refl _ _ _).drew
  replace K3 := K3.drew
  obtain ⟨S, hS⟩ : ∃ S : Nat → World → Prop, S = fun n w' => if n = 0 then Blk w' b11 29 #[.int .i64 x.least, .int .i64 x.most, .int .i64 x.all] else True := ⟨_, rfl⟩
  have hS0 : ∀ w', S 0 w' ↔ (Blk w' b11 29 #[.int .i64 x.least, .int .i64 x.most, .int .i64 x.all]) := fun w' => by rw [hS]; exact Iff.rfl
  have hS1 : ∀ w', S 1 w' ↔ (True) := fun w' => by rw [hS]; exact Iff.rfl
  clear hS
  have cy := fun (q : Ev (S 0)) i => ((hS0 _).1 q.h).cell i
  have hevT := ev_true
  refine wp_region_ord S [(0, 0), (1, 1), (2, 0), (3, 1), (4, 0), (5, 2), (6, 0), (7, 0), (8, 0), (9, 3)] [9] (by kernel_rfl) (by kernel_rfl) ((hS0 _).2 Yb11) ?_
  intro _hev
  iterate 5 (first | (refine wpOrd_v rfl rfl ?_; intro K hK; go_big_quiet_op; go_big_quiet_on) | (refine wpOrd_q rfl rfl ?_; intro K hK; go_big_quiet_op; go_big_quiet_on) | refine wpOrd_s (by decide) rfl rfl ?_)
  refine wpOrd_l rfl rfl ?_; intro K hK
  go_step
  refine (mod64_any more 1000 _ (by omega) (by omega)).mono ?_
  rintro e w' ⟨rfl, hw'⟩
  rw [← hw', ← hm1.out]
  clear hw'
  refine hK _ _ ((hS0 _).2 Yb11) ?_
  clear hK K
  iterate 3 (first | (refine wpOrd_v rfl rfl ?_; intro K hK; go_big_quiet_op; go_big_quiet_on) | (refine wpOrd_q rfl rfl ?_; intro K hK; go_big_quiet_op; go_big_quiet_on) | refine wpOrd_s (by decide) rfl rfl ?_)
  have cA := fun i => Yb11.cell i
  have fA := fun i => Yb11.frozen i
  refine wpOrd_a rfl rfl ?_; intro K hK
  go_step
  refine hK _ _ ((hS1 _).2 trivial) ?_
  clear hK K
  change wpOrd _ _ _ _ _ 1 _ _
  refine wpOrd_nil ?_
  clear hevT _hev
  clear hS0 hS1 S cy cA fA
  change Exit.then _ _ _ _ (World.setCell w6.drew ⟨b11, 1, none⟩ (.int .i64 (min x.all (x.most + m1))))
  replace B8 := B8.far (p := ⟨b11, 1, none⟩) nB8b11 (.int .i64 (min x.all (x.most + m1)))
  replace B9 := B9.far (p := ⟨b11, 1, none⟩) nB9b11 (.int .i64 (min x.all (x.most + m1)))
  replace hC := hC.kp ((Kp.refl _ none (w6.drew)).setNew (p := ⟨b11, 1, none⟩) gb11 (.int .i64 (min x.all (x.most + m1))))
  replace K3 := K3.setNew (p := ⟨b11, 1, none⟩) hwb11 (.int .i64 (min x.all (x.most + m1)))
  replace Yb11 := Yb11.set_ 1 (.int .i64 (min x.all (x.most + m1)))
  simp only [List.setIfInBounds_toArray, List.set_cons_zero, List.set_cons_succ] at Yb11
  generalize World.setCell (w6.drew) ⟨b11, 1, none⟩ (.int .i64 (min x.all (x.most + m1))) = w7 at Yb11 B8 B9 K3 hC ⊢
  have c9 := fun i => B9.cell i
  go_upto_region 7 with (fail)
  clear c9
  have Yb12 := Blk.new w7 29 #[.int .i64 x.least, .int .i64 x.most, .int .i64 x.all]
  have KY := Kp.new w7 (.cells #[.int .i64 x.least, .int .i64 x.most, .int .i64 x.all] 29)
  have hwb12 : w.heap.size ≤ w7.heap.size := K3.size
  have lB8 := B8.lt
  have nB8b12 : b8 ≠ w7.heap.size := by omega
  clear lB8
  have lB9 := B9.lt
  have nB9b12 : b9 ≠ w7.heap.size := by omega
  clear lB9
  have lYb11 := Yb11.lt
  have nYb11b12 : b11 ≠ w7.heap.size := by omega
  clear lYb11
  have gb12 : b8 ≤ w7.heap.size := Nat.le_of_lt B8.lt
  replace B8 := B8.kpN KY
  replace B9 := B9.kpN KY
  replace Yb11 := Yb11.kpN KY
  replace hC := hC.kpN KY
  replace K3 := K3.thenN KY (Nat.le_refl _)
  clear KY
  obtain ⟨b12, hb12⟩ : ∃ q, q = w7.heap.size := ⟨_, rfl⟩
  rw [← hb12] at Yb12 hwb12 gb12 nB8b12 nB9b12 nYb11b12 ⊢
  clear hb12
  generalize World.alloc w7 (.cells #[.int .i64 x.least, .int .i64 x.most, .int .i64 x.all] 29) = w8 at Yb12 B8 B9 Yb11 K3 hC ⊢
  replace Yb12 := Yb12.drew
  replace B8 := B8.drew
  replace B9 := B9.drew
  replace Yb11 := Yb11.drew
  replace hC := hC.kpN (Kp.refl _ _ _).drew
  replace K3 := K3.drew
  obtain ⟨S, hS⟩ : ∃ S : Nat → World → Prop, S = fun n w' => if n = 0 then Blk w' b12 29 #[.int .i64 x.least, .int .i64 x.most, .int .i64 x.all] else True := ⟨_, rfl⟩
  have hS0 : ∀ w', S 0 w' ↔ (Blk w' b12 29 #[.int .i64 x.least, .int .i64 x.most, .int .i64 x.all]) := fun w' => by rw [hS]; exact Iff.rfl
  have hS1 : ∀ w', S 1 w' ↔ (True) := fun w' => by rw [hS]; exact Iff.rfl
  clear hS
  have cy := fun (q : Ev (S 0)) i => ((hS0 _).1 q.h).cell i
  have hevT := ev_true
  refine wp_region_ord S [(0, 0), (1, 1), (2, 0), (3, 2), (4, 0), (5, 0), (6, 3)] [6] (by kernel_rfl) (by kernel_rfl) ((hS0 _).2 Yb12) ?_
  intro _hev
  iterate 3 (first | (refine wpOrd_v rfl rfl ?_; intro K hK; go_big_quiet_op; go_big_quiet_on) | (refine wpOrd_q rfl rfl ?_; intro K hK; go_big_quiet_op; go_big_quiet_on) | refine wpOrd_s (by decide) rfl rfl ?_)
  refine wpOrd_l rfl rfl ?_; intro K hK
  go_step
  refine (mod64_any wider 1099511627776 _ (by omega) (by omega)).mono ?_
  rintro e w' ⟨rfl, hw'⟩
  rw [← hw', ← hm2.out]
  clear hw'
  refine hK _ _ ((hS0 _).2 Yb12) ?_
  clear hK K
  iterate 2 (first | (refine wpOrd_v rfl rfl ?_; intro K hK; go_big_quiet_op; go_big_quiet_on) | (refine wpOrd_q rfl rfl ?_; intro K hK; go_big_quiet_op; go_big_quiet_on) | refine wpOrd_s (by decide) rfl rfl ?_)
  have cA := fun i => Yb12.cell i
  have fA := fun i => Yb12.frozen i
  refine wpOrd_a rfl rfl ?_; intro K hK
  go_step
  refine hK _ _ ((hS1 _).2 trivial) ?_
  clear hK K
  change wpOrd _ _ _ _ _ 1 _ _
  refine wpOrd_nil ?_
  clear hevT _hev
  clear hS0 hS1 S cy cA fA
  change Exit.then _ _ _ _ (World.setCell w8.drew ⟨b12, 2, none⟩ (.int .i64 (x.all + m2)))
  replace B8 := B8.far (p := ⟨b12, 2, none⟩) nB8b12 (.int .i64 (x.all + m2))
  replace B9 := B9.far (p := ⟨b12, 2, none⟩) nB9b12 (.int .i64 (x.all + m2))
  replace Yb11 := Yb11.far (p := ⟨b12, 2, none⟩) nYb11b12 (.int .i64 (x.all + m2))
  replace hC := hC.kp ((Kp.refl _ none (w8.drew)).setNew (p := ⟨b12, 2, none⟩) gb12 (.int .i64 (x.all + m2)))
  replace K3 := K3.setNew (p := ⟨b12, 2, none⟩) hwb12 (.int .i64 (x.all + m2))
  replace Yb12 := Yb12.set_ 2 (.int .i64 (x.all + m2))
  simp only [List.setIfInBounds_toArray, List.set_cons_zero, List.set_cons_succ] at Yb12
  generalize World.setCell (w8.drew) ⟨b12, 2, none⟩ (.int .i64 (x.all + m2)) = w9 at Yb12 B8 B9 Yb11 K3 hC ⊢
  have c9 := fun i => B9.cell i
  go_upto_region 9 with (fail)
  clear c9
  have Yb13 := Blk.new w9 29 #[.int .i64 x.least, .int .i64 x.most, .int .i64 x.all]
  have KY := Kp.new w9 (.cells #[.int .i64 x.least, .int .i64 x.most, .int .i64 x.all] 29)
  have hwb13 : w.heap.size ≤ w9.heap.size := K3.size
  have lB8 := B8.lt
  have nB8b13 : b8 ≠ w9.heap.size := by omega
  clear lB8
  have lB9 := B9.lt
  have nB9b13 : b9 ≠ w9.heap.size := by omega
  clear lB9
  have lYb11 := Yb11.lt
  have nYb11b13 : b11 ≠ w9.heap.size := by omega
  clear lYb11
  have lYb12 := Yb12.lt
  have nYb12b13 : b12 ≠ w9.heap.size := by omega
  clear lYb12
  have gb13 : b8 ≤ w9.heap.size := Nat.le_of_lt B8.lt
  replace B8 := B8.kpN KY
  replace B9 := B9.kpN KY
  replace Yb11 := Yb11.kpN KY
  replace Yb12 := Yb12.kpN KY
  replace hC := hC.kpN KY
  replace K3 := K3.thenN KY (Nat.le_refl _)
  clear KY
  obtain ⟨b13, hb13⟩ : ∃ q, q = w9.heap.size := ⟨_, rfl⟩
  rw [← hb13] at Yb13 hwb13 gb13 nB8b13 nB9b13 nYb11b13 nYb12b13 ⊢
  clear hb13
  generalize World.alloc w9 (.cells #[.int .i64 x.least, .int .i64 x.most, .int .i64 x.all] 29) = w10 at Yb13 B8 B9 Yb11 Yb12 K3 hC ⊢
  have f13 := fun i => Yb13.frozen i
  have c13 := fun i => Yb13.cell i
  go_upto_region 10 with (fail)
  clear f13 c13
  replace B8 := B8.far (p := ⟨b13, 0, none⟩) nB8b13 (.int .i64 0)
  replace B9 := B9.far (p := ⟨b13, 0, none⟩) nB9b13 (.int .i64 0)
  replace Yb11 := Yb11.far (p := ⟨b13, 0, none⟩) nYb11b13 (.int .i64 0)
  replace Yb12 := Yb12.far (p := ⟨b13, 0, none⟩) nYb12b13 (.int .i64 0)
  replace hC := hC.kp ((Kp.refl _ none (w10)).setNew (p := ⟨b13, 0, none⟩) gb13 (.int .i64 0))
  replace K3 := K3.setNew (p := ⟨b13, 0, none⟩) hwb13 (.int .i64 0)
  replace Yb13 := Yb13.set_ 0 (.int .i64 0)
  simp only [List.setIfInBounds_toArray, List.set_cons_zero, List.set_cons_succ] at Yb13
  generalize World.setCell (w10) ⟨b13, 0, none⟩ (.int .i64 0) = w11 at Yb13 B8 B9 Yb11 Yb12 K3 hC ⊢
  have c8 := fun i => B8.cell i
  have c11 := fun i => Yb11.cell i
  have c12 := fun i => Yb12.cell i
  have c13 := fun i => Yb13.cell i
  have eN := hN.out.trans (levelI_eq hce hxx.out.err)
  have hN0 : 0 ≤ N := by rw [eN]; omega
  have hN1 : N ≤ (c.levels.length : Int) := by have := levelOf_le c x; rw [eN]; omega
  obtain ⟨N1, hY⟩ : ∃ q, q = levelI c ⟨x.least, min x.all (x.most + m1), x.all⟩ := ⟨_, rfl⟩
  have eY := hY.trans (levelI_eq hce (by unfold chanceErr; rw [if_neg (by simp only; omega)]))
  have hY1 : N ≤ N1 := by
    have := level_more (c := c) (x := x) (y := ⟨x.least, min x.all (x.most + m1), x.all⟩) (by simp only; omega) rfl
    rw [eY, eN]; omega
  obtain ⟨N2, hZ⟩ : ∃ q, q = levelI c ⟨x.least, x.most, x.all + m2⟩ := ⟨_, rfl⟩
  have eZ := hZ.trans (levelI_eq hce (by unfold chanceErr; rw [if_neg (by simp only; omega)]))
  have hZ1 : N2 ≤ N := by
    have := level_wider hcc (x := x) (y := ⟨x.least, x.most, x.all + m2⟩) rfl (by simp only; omega)
    rw [eZ, eN]; omega
  have hZ0 : 0 ≤ N2 := by rw [eZ]; omega
  obtain ⟨N3, hU⟩ : ∃ q, q = levelI c ⟨0, x.most, x.all⟩ := ⟨_, rfl⟩
  have eU := hU.trans (levelI_eq hce (by unfold chanceErr; rw [if_neg (by simp only; omega)]))
  have hU1 : N3 = N := by rw [eU, eN]; rfl
  replace hY := Lib.hid hY
  replace hZ := Lib.hid hZ
  replace hU := Lib.hid hU
  replace hce := Lib.hid hce
  clear eN eY eZ eU hm10 hm11 hm20 hm21 hx1 hx2 hx3 hx4 hx5
  go_wp2_with fail
  refine (council_Level_any ⟨x.least, min x.all (x.most + m1), x.all⟩ b8 V c _ hC).mono ?_
  rintro e w12 ⟨rfl, k12⟩
  rw [← hY.out]
  replace hC := hC.kpN k12
  replace B8 := B8.kpN k12
  replace Yb11 := Yb11.kpN k12
  replace Yb12 := Yb12.kpN k12
  replace Yb13 := Yb13.kpN k12
  replace K3 := K3.thenN k12 (Nat.le_refl _)
  clear k12 c8 c11 c12 c13
  rename World => w11
  have c8 := fun i => B8.cell i
  have c11 := fun i => Yb11.cell i
  have c12 := fun i => Yb12.cell i
  have c13 := fun i => Yb13.cell i
  go_wp2_with fail
  refine (council_Level_any ⟨x.least, x.most, x.all + m2⟩ b8 V c _ hC).mono ?_
  rintro e w12 ⟨rfl, k12⟩
  rw [← hZ.out]
  replace hC := hC.kpN k12
  replace B8 := B8.kpN k12
  replace Yb11 := Yb11.kpN k12
  replace Yb12 := Yb12.kpN k12
  replace Yb13 := Yb13.kpN k12
  replace K3 := K3.thenN k12 (Nat.le_refl _)
  clear k12 c8 c11 c12 c13
  rename World => w11
  have c8 := fun i => B8.cell i
  have c11 := fun i => Yb11.cell i
  have c12 := fun i => Yb12.cell i
  have c13 := fun i => Yb13.cell i
  go_wp2_with fail
  refine (council_Level_any ⟨x.least, x.most, x.all + m2⟩ b8 V c _ hC).mono ?_
  rintro e w12 ⟨rfl, k12⟩
  rw [← hZ.out]
  replace hC := hC.kpN k12
  replace B8 := B8.kpN k12
  replace Yb11 := Yb11.kpN k12
  replace Yb12 := Yb12.kpN k12
  replace Yb13 := Yb13.kpN k12
  replace K3 := K3.thenN k12 (Nat.le_refl _)
  clear k12 c8 c11 c12 c13
  rename World => w11
  have c8 := fun i => B8.cell i
  have c11 := fun i => Yb11.cell i
  have c12 := fun i => Yb12.cell i
  have c13 := fun i => Yb13.cell i
  go_wp2_with fail
  refine (council_Level_any ⟨0, x.most, x.all⟩ b8 V c _ hC).mono ?_
  rintro e w12 ⟨rfl, k12⟩
  rw [← hU.out]
  replace hC := hC.kpN k12
  replace B8 := B8.kpN k12
  replace Yb11 := Yb11.kpN k12
  replace Yb12 := Yb12.kpN k12
  replace Yb13 := Yb13.kpN k12
  replace K3 := K3.thenN k12 (Nat.le_refl _)
  clear k12 c8 c11 c12 c13
  rename World => w11
  have c8 := fun i => B8.cell i
  have c11 := fun i => Yb11.cell i
  have c12 := fun i => Yb12.cell i
  have c13 := fun i => Yb13.cell i
  go_wp2_with fail
  refine (awake_any _).mono ?_
  rintro e w12 ⟨rfl, k12⟩
  replace K3 := K3.thenN k12 (Nat.le_refl _)
  clear c8 c11 c12 c13 k12
  go_wp2
  go_ret
  exact ⟨rfl, K3⟩
end Go.Proofs.Ytogpgnljomchcaa
