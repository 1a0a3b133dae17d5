/- Lands made of a ring. -/
import Derived.Test.YtdiigflbohbndaaDoorLists2
namespace Go.Proofs.YtdiigflbohbndaaDoor
open Go.RowKit

def encI (x : Int) : List Value := [.int .i64 x]
def encB (x : Bool) : List Value := [.bool x]
structure Land where
  people : List Int
  water : List Bool

section
variable {α β : Type} {w w' : World} {B B' e e' sz sz' : Nat} {enc : α → List Value} {enc' : β → List Value} {v v' : Value} {xs : List α} {ys : List β}
theorem Own.slice (h : Own w B e sz enc v xs) : ∃ A cap, v = .slice A xs.length cap := by
  rcases h.2 with ⟨rfl, h0⟩ | ⟨g, cap, cur, rfl, _⟩
  · exact ⟨none, 0, by rw [h0]⟩
  · exact ⟨_, cap, rfl⟩
theorem Own.cap_le {A : Option Addr} {n c : Nat} (h : Own w B e sz enc (.slice A n c) xs) : n ≤ c := by
  rcases h.2 with ⟨h1, h0⟩ | ⟨g, cap, cur, h1, _, _, h2, _⟩
  · injection h1 with _ h3 h4; omega
  · injection h1 with _ h3 h4; omega
/-- Rows of different element types are different blocks. -/
theorem Own.apart (h : Own w B e sz enc v xs) (h' : Own w B' e' sz' enc' v' ys) (hne : e ≠ e') : v'.ownBlock = none ∨ v'.ownBlock ≠ v.ownBlock := by
  rcases h.2 with ⟨rfl, _⟩ | ⟨g, cap, cur, rfl, _, hh, _⟩
  · cases hv : v'.ownBlock with
    | none => exact .inl rfl
    | some b => exact .inr (by simp [Value.ownBlock])
  · rcases h'.2 with ⟨rfl, _⟩ | ⟨g', cap', cur', rfl, _, hh', _⟩
    · exact .inl rfl
    · refine .inr fun he => ?_
      have : g' = g := by simpa [Value.ownBlock] using he
      subst this
      rw [hh] at hh'
      injection hh' with hh'
      injection hh' with _ ht
      exact hne ht
theorem Own.grown (h : Own w B e sz enc v xs) (hg : w.grownBy w' v'.ownBlock) (ha : v.ownBlock = none ∨ v.ownBlock ≠ v'.ownBlock) : Own w' B e sz enc v xs := World.ownsRow.kept h hg ha
/-- A store below the rows. -/
theorem Own.setLow (h : Own w B e sz enc v xs) {p : Addr} (hp : p.block < B) (u : Value) : Own (w.setCell p u) B e sz enc v xs := ownsRow_setCell_below h hp u
end

theorem i64_info : (Tryd.prog.info? 2).map (fun i => (i.zero, i.size, i.bytes)) = some (some (.int .i64 0), 1, 8) := by kernel_rfl
theorem bool_info : (Tryd.prog.info? 4).map (fun i => (i.zero, i.size, i.bytes)) = some (some (.bool false), 1, 1) := by kernel_rfl

theorem Own.slice1 {α : Type} {w : World} {B e sz : Nat} {enc : α → List Value} {v : Value} {xs : List α} {x : α} (h : Own w B e sz enc v (xs ++ [x])) : ∃ A cap, v = .slice A (xs.length + 1) cap := by
  obtain ⟨A, cap, rfl⟩ := h.slice
  exact ⟨A, cap, by rw [List.length_append]; rfl⟩
theorem mul_bd {a b : Int} (h0 : 0 ≤ a) (h1 : a < 3) (h2 : 0 ≤ b) (h3 : b < 1000) : a * b ≤ 1998 := by
  have : a * b ≤ 2 * b := Int.mul_le_mul_of_nonneg_right (by omega) h2
  omega

def LandRel (g : Nat) (nums : List Int) (k0 : Nat) (W : World) (N : Nat) (n : Value) (wr : World) : Prop :=
  ∃ (ps : List Int) (bs : List Bool) (A A' : Option Addr) (c c' : Nat) (m : Int) (k : Nat), n = .int .i64 m ∧ 0 ≤ m ∧ m + ps.length = N ∧ bs.length = ps.length ∧ 1 ≤ N ∧ N ≤ 16 ∧ k ≤ k0 + 2 + 3 * ps.length ∧
    Blk wr (W.heap.size + 1) 54 #[.slice A ps.length c, .slice A' bs.length c'] ∧ Blk wr W.heap.size 54 #[.slice none 0 0, .slice none 0 0] ∧
    Own wr (W.heap.size + 2) 2 1 encI (.slice A ps.length c) ps ∧ Own wr (W.heap.size + 2) 4 1 encB (.slice A' bs.length c') bs ∧ (∀ p ∈ ps, 0 ≤ p ∧ p ≤ 1998) ∧ RingAt wr g nums k ∧ Kp W.heap.size (some g) W wr

set_option maxHeartbeats 2000000 in
theorem landOf_any (g : Nat) (nums : List Int) (k : Nat) (w : World) (h : RingAt w g nums k) (hk : k ≤ 800000) :
    Calls Tryd.prog 26 #[.pointer (some ⟨g, 0, none⟩)] w
      (RPostB g nums (k + 60) w fun v w' => ∃ A c A' c' ps bs, v = .agg #[.slice A ps.length c, .slice A' bs.length c'] ∧ Rd (some g) w' 1 encI A ps.length ps ∧ Rd (some g) w' 1 encB A' bs.length bs ∧
        bs.length = ps.length ∧ 1 ≤ ps.length ∧ ps.length ≤ 16 ∧ (∀ p ∈ ps, 0 ≤ p ∧ p ≤ 1998) ∧ ps.length ≤ c ∧ bs.length ≤ c' ∧ (∀ ad, A = some ad → w.heap.size ≤ ad.block) ∧ ∀ ad, A' = some ad → w.heap.size ≤ ad.block) := by
  obtain ⟨i0, hi, hz0, hz1, hz2⟩ := info_parts i64_info
  obtain ⟨j0, hj, hy0, hy1, hy2⟩ := info_parts bool_info
  have hg := h.lt
  have hne := h.ne (Nat.le_refl _)
  have hne' := h.ne (Nat.le_succ w.heap.size)
  have ha := (Blk.new w 54 #[.slice none 0 0, .slice none 0 0]).alloc (.cells #[.slice none 0 0, .slice none 0 0] 54)
  have hb := Blk.newAt (w.alloc (.cells #[.slice none 0 0, .slice none 0 0] 54)) 54 #[.slice none 0 0, .slice none 0 0] (n := w.heap.size + 1) (by simp)
  have K0 := ((Kp.refl w.heap.size (some g) w).alloc (Nat.le_refl _) (.cells #[.slice none 0 0, .slice none 0 0] 54)).alloc (by simp) (.cells #[.slice none 0 0, .slice none 0 0] 54)
  go_enter Tryd.func26, Tryd.ntmps26
  go_wp2_with fail
  refine (next_any g nums k _ _ ((h.alloc _).alloc _) (by omega) (by omega) (by omega)).mono ?_
  rintro e w1 ⟨v, rfl, ⟨sea, rfl, p0, q0⟩, hr1, hk1⟩
  have ha1 := ha.kp hk1 ha.lt hne
  have hb1 := hb.kp hk1 hb.lt hne'
  have K1 := K0.then_ hk1 (by simp)
  clear ha hb K0 hk1
  go_wp2_with fail
  refine (next_any g nums _ _ _ hr1 (by omega) (by omega) (by omega)).mono ?_
  rintro e w2 ⟨v, rfl, ⟨n0, rfl, p1, q1⟩, hr2, hk2⟩
  have ha2 := ha1.kp hk2 ha1.lt hne
  have hb2 := hb1.kp hk2 hb1.lt hne'
  have K2 := K1.then_ hk2 (Nat.le_refl _)
  obtain ⟨N, rfl⟩ := Int.eq_ofNat_of_zero_le p1
  clear hk2 hr1 ha1 hb1 K1
  go_wp2_with fail
  go_loopw [5] (fun n wr => LandRel g nums k w (1 + N) n wr) (fun n _ => (intOf n).toNat)
  case atStart => exact ⟨[], [], none, none, 0, 0, 1 + N, _, rfl, by omega, by simp, rfl, by omega, by omega, by simp, hb2, ha2, Own.nil _ _ _ _ _, Own.nil _ _ _ _ _, by simp, hr2, K2⟩
  case round =>
    obtain ⟨ps, bs, A, A', c, c', m, k', rfl, hm0, hm, hbl, hN1, hN, hk', hB, hA, hop, how, hok, hr, KK⟩ := hrel
    have hl6 : ps.length ≤ 16 := by omega
    have hm6 : m ≤ 16 := by omega
    have hzr : w.heap.size + 2 ≤ wr.heap.size := hB.lt
    by_cases hmp : 0 < m
    · have hl5 : ps.length ≤ 15 := by omega
      have HM := Lib.hid hm
      have HL := Lib.hid hbl
      have hbl5 : bs.length ≤ 15 := by omega
      clear hm hbl
      go_wp2_with fail
      obtain ⟨S, hS⟩ : ∃ S : Nat → World → Prop, S = fun n w' => if n = 0 then Blk w' (w.heap.size + 1) 54 #[.slice A ps.length c, .slice A' bs.length c'] else True := ⟨_, rfl⟩
      have hS0 : ∀ w', S 0 w' ↔ (Blk w' (w.heap.size + 1) 54 #[.slice A ps.length c, .slice A' bs.length c']) := fun w' => by rw [hS]; exact Iff.rfl
      have hS1 : ∀ w', S 1 w' ↔ (True) := fun w' => by rw [hS]; exact Iff.rfl
      clear hS
      have cx := fun (x : Ev (S 0)) i => ((hS0 _).1 x.h).cell i
      replace hA := hA.drew
      replace hB := hB.drew
      replace hop := hop.drew
      replace how := how.drew
      replace hr := hr.drew
      replace KK := KK.drew
      have hevT := ev_true
      refine wp_region_ord S [(0, 0), (1, 1), (2, 0), (4, 0), (9, 0), (10, 1), (11, 0), (13, 0), (3, 2), (5, 2), (6, 0), (7, 2), (8, 2), (17, 0), (12, 2), (14, 0), (15, 2), (16, 2), (18, 3), (19, 0), (20, 2)] [18] (by kernel_rfl) (by kernel_rfl) ((hS0 _).2 hB) ?_
      intro _hev
      iterate 8 (first | (refine wpOrd_v rfl rfl ?_; intro K hK; go_big_quiet_op; go_big_quiet_on) | (refine wpOrd_q rfl rfl ?_; intro K hK; go_big_quiet_op; go_big_quiet_on) | refine wpOrd_s (by decide) rfl rfl ?_)
      refine wpOrd_l rfl rfl ?_; intro K hK
      go_step
      refine (next_any g nums _ _ _ hr (by omega) (by omega) (by omega)).mono ?_
      rintro e w3 ⟨v, rfl, ⟨a, rfl, pa, qa⟩, hr3, hk3⟩
      have hB3 := hB.kp hk3 hB.lt hne'
      have hA3 := hA.kp hk3 hA.lt hne
      have op3 := hop.kp hk3 (fun b hb => sne (by omega))
      have ow3 := how.kp hk3 (fun b hb => sne (by omega))
      have K3 := KK.then_ hk3 (Nat.le_refl _)
      refine hK _ _ ((hS0 _).2 hB3) ?_
      clear hK K hr hB hA hop how KK hk3
      refine wpOrd_l rfl rfl ?_; intro K hK
      go_step
      refine (next_any g nums _ _ _ hr3 (by omega) (by omega) (by omega)).mono ?_
      rintro e w4 ⟨v, rfl, ⟨b, rfl, pb, qb⟩, hr4, hk4⟩
      have hB4 := hB3.kp hk4 hB3.lt hne'
      have hA4 := hA3.kp hk4 hA3.lt hne
      have op4 := op3.kp hk4 (fun b hb => sne (by omega))
      have ow4 := ow3.kp hk4 (fun b hb => sne (by omega))
      have K4 := K3.then_ hk4 (Nat.le_refl _)
      have hz4 : w.heap.size + 2 ≤ w4.heap.size := hB4.lt
      refine hK _ _ ((hS0 _).2 hB4) ?_
      clear hK K hr3 hB3 hA3 op3 ow3 K3 hk4
      have hx0 : 0 ≤ a * b := Int.mul_nonneg pa pb
      have hx3 : a * b ≤ 1998 := mul_bd pa qa pb qb
      iterate 1 (first | (refine wpOrd_v rfl rfl ?_; intro K hK; go_big_quiet_op; go_big_quiet_on) | (refine wpOrd_q rfl rfl ?_; intro K hK; go_big_quiet_op; go_big_quiet_on) | refine wpOrd_s (by decide) rfl rfl ?_)
      refine wpOrd_l rfl rfl ?_; intro K hK
      go_step
      refine hK _ _ ((hS0 _).2 (hB4.alloc _)) ?_
      clear hK K
      refine wpOrd_l rfl rfl ?_; intro K hK
      refine wp_append_own _ (.tmp 16) (.tmp 22) 51 (by rfl) (w.heap.size + 2) 2 i0 _ 1 8 Tryd.underlying51 hi hz0 hz1 hz2 (by rfl) (by omega) _ ps.length (ps.flatMap encI) (by rfl) (op4.alloc _) ⟨w4.heap.size, 0, none⟩ 1 1 [.int .i64 (a * b)] (by rfl) (by rfl) (cell_one_new _ _ _) (one_int _ _) (maxLen_of (by omega)) (by omega) (alloc_ge hz4 _) ?_
      intro v5 w5 hown5 hgrow _
      have op5 : Own w5 (w.heap.size + 2) 2 1 encI v5 (ps ++ [a * b]) := by unfold Own; simpa [encI] using hown5
      have ow5 := (ow4.alloc _).grown hgrow (op4.apart ow4 (by decide))
      have hr5 := (hr4.alloc _).grown hgrow (Own.gt op4 (by omega))
      have kk5 : Kp (w.heap.size + 2) none _ w5 := Kp.of_own (op4.alloc _) hgrow (alloc_ge hz4 _)
      have hB5 := (hB4.alloc _).kp kk5 (by omega) (by simp)
      have hA5 := (hA4.alloc _).kp kk5 (by omega) (by simp)
      have K5 := (K4.alloc (by omega) _).trans ((kk5.mono (by omega)).wide (some g))
      have hz5 : w.heap.size + 2 ≤ w5.heap.size := hB5.lt
      refine hK _ _ ((hS0 _).2 hB5) ?_
      simp only [Act.put, List.setIfInBounds_toArray, List.set_cons_zero, List.set_cons_succ]
      clear hK K hown5 hgrow kk5 op4 ow4 hr4 hB4 hA4 K4
      iterate 1 (first | (refine wpOrd_v rfl rfl ?_; intro K hK; go_big_quiet_op; go_big_quiet_on) | (refine wpOrd_q rfl rfl ?_; intro K hK; go_big_quiet_op; go_big_quiet_on) | refine wpOrd_s (by decide) rfl rfl ?_)
      refine wpOrd_l rfl rfl ?_; intro K hK
      go_step
      refine (next_any g nums _ _ _ hr5 (by omega) (by omega) (by omega)).mono ?_
      rintro e w6 ⟨v, rfl, ⟨d, rfl, pd, qd⟩, hr6, hk6⟩
      have hB6 := hB5.kp hk6 hB5.lt hne'
      have hA6 := hA5.kp hk6 hA5.lt hne
      have op6 := op5.kp hk6 (fun b hb => sne (by omega))
      have ow6 := ow5.kp hk6 (fun b hb => sne (by omega))
      have K6 := K5.then_ hk6 (Nat.le_refl _)
      have hz6 : w.heap.size + 2 ≤ w6.heap.size := hB6.lt
      refine hK _ _ ((hS0 _).2 hB6) ?_
      clear hK K hr5 hB5 hA5 op5 ow5 K5 hk6
      iterate 1 (first | (refine wpOrd_v rfl rfl ?_; intro K hK; go_big_quiet_op; go_big_quiet_on) | (refine wpOrd_q rfl rfl ?_; intro K hK; go_big_quiet_op; go_big_quiet_on) | refine wpOrd_s (by decide) rfl rfl ?_)
      refine wpOrd_l rfl rfl ?_; intro K hK
      go_step
      refine hK _ _ ((hS0 _).2 (hB6.alloc _)) ?_
      clear hK K
      refine wpOrd_l rfl rfl ?_; intro K hK
      refine wp_append_own _ (.tmp 25) (.tmp 30) 52 (by rfl) (w.heap.size + 2) 4 j0 _ 1 1 Tryd.underlying52 hj hy0 hy1 hy2 (by rfl) (by omega) _ bs.length (bs.flatMap encB) (by rfl) (ow6.alloc _) ⟨w6.heap.size, 0, none⟩ 1 1 [.bool (decide (d < sea))] (by rfl) (by rfl) (cell_one_new _ _ _) (one_bool _) (maxLen_of (by omega)) (by omega) (alloc_ge hz6 _) ?_
      intro v7 w7 hown7 hgrow _
      have ow7 : Own w7 (w.heap.size + 2) 4 1 encB v7 (bs ++ [decide (d < sea)]) := by unfold Own; simpa [encB] using hown7
      have op7 := (op6.alloc _).grown hgrow (ow6.apart op6 (by decide))
      have hr7 := (hr6.alloc _).grown hgrow (Own.gt ow6 (by omega))
      have kk7 : Kp (w.heap.size + 2) none _ w7 := Kp.of_own (ow6.alloc _) hgrow (alloc_ge hz6 _)
      have hB7 := (hB6.alloc _).kp kk7 (by omega) (by simp)
      have hA7 := (hA6.alloc _).kp kk7 (by omega) (by simp)
      have K7 := (K6.alloc (by omega) _).trans ((kk7.mono (by omega)).wide (some g))
      obtain ⟨A8, c8, rfl⟩ := op7.slice1
      obtain ⟨A9, c9, rfl⟩ := ow7.slice1
      have c7 := fun i => hB7.cell i
      have f7 := fun i => hB7.frozen i
      refine hK _ _ ((hS0 _).2 hB7) ?_
      simp only [Act.put, List.setIfInBounds_toArray, List.set_cons_zero, List.set_cons_succ]
      clear hK K hown7 hgrow kk7 op6 ow6 hr6 hB6 hA6 K6
      refine wpOrd_a rfl rfl ?_; intro K hK
      go_step
      refine hK _ _ ((hS1 _).2 trivial) ?_
      clear hK K
      change wpOrd _ _ _ _ _ 1 _ _
      iterate 1 (first | (refine wpOrd_v rfl rfl ?_; intro K hK; go_big_quiet_op; go_big_quiet_on) | (refine wpOrd_q rfl rfl ?_; intro K hK; go_big_quiet_op; go_big_quiet_on) | refine wpOrd_s (by decide) rfl rfl ?_)
      refine wpOrd_l rfl rfl ?_; intro K hK
      go_step
      refine hK _ _ ((hS1 _).2 trivial) ?_
      clear hK K
      refine wpOrd_nil ?_
      clear hevT _hev
      clear cx hS0 hS1 S c7 f7
      have hB8 := (hB7.set_ 0 (.slice A8 (ps.length + 1) c8)).set_ 1 (.slice A9 (bs.length + 1) c9)
      simp only [List.setIfInBounds_toArray, List.set_cons_zero, List.set_cons_succ] at hB8
      go_wp2
      go_roundw
      case rel =>
        have hmo := HM.out
        have hlo := HL.out
        have e8 : (ps ++ [a * b]).length = ps.length + 1 := by simp
        have e9 : (bs ++ [decide (d < sea)]).length = bs.length + 1 := by simp
        exact ⟨ps ++ [a * b], bs ++ [decide (d < sea)], A8, A9, c8, c9, m - 1, _, rfl, by omega, by simp only [List.length_append, List.length_cons, List.length_nil]; omega, by simp only [List.length_append, List.length_cons, List.length_nil]; omega, hN1, hN,
          by simp only [List.length_append, List.length_cons, List.length_nil]; omega, by simpa using hB8, (hA7.far (by simp) _).far (by simp) _, by rw [e8]; exact (op7.setLow (by simp) _).setLow (by simp) _, by rw [e9]; exact (ow7.setLow (by simp) _).setLow (by simp) _, fun z hz => by
            rcases List.mem_append.1 hz with hz | hz
            · exact hok z hz
            · simp at hz; subst hz; exact ⟨hx0, hx3⟩, (hr7.big (by simp; omega) _).big (by simp; omega) _, (K7.setNew (by simp) _).setNew (by simp) _⟩
      case measure => simp [intOf]; omega
    · have hl1 : 1 ≤ ps.length := by omega
      replace hop := (hop.setLow (p := ⟨w.heap.size, 0, none⟩) (show w.heap.size < w.heap.size + 2 by omega) (.slice A ps.length c)).setLow (p := ⟨w.heap.size, 1, none⟩) (show w.heap.size < w.heap.size + 2 by omega) (.slice A' bs.length c')
      replace how := (how.setLow (p := ⟨w.heap.size, 0, none⟩) (show w.heap.size < w.heap.size + 2 by omega) (.slice A ps.length c)).setLow (p := ⟨w.heap.size, 1, none⟩) (show w.heap.size < w.heap.size + 2 by omega) (.slice A' bs.length c')
      obtain ⟨A1, cap1, he1, hrd1, hge1⟩ := hop.rd (row := some g) (fun _ => rfl) (fun b hb => sne (by omega))
      obtain ⟨A2, cap2, he2, hrd2, hge2⟩ := how.rd (row := some g) (fun _ => rfl) (fun b hb => sne (by omega))
      injection he1 with e1 _ e2
      injection he2 with e3 _ e4
      subst e1 e2 e3 e4
      have c1 := fun i => hB.cell i
      have c2 := fun i => hA.cell i
      have f2 := fun i => hA.frozen i
      have HL := Lib.hid hbl
      clear hbl hm
      go_wp2
      exact bodyPost_ret (v := .agg #[.slice A ps.length c, .slice A' bs.length c']) (by simp [results, Tryd.results26, go_sem, c2]) rfl
        ⟨_, k', rfl, ⟨A, c, A', c', ps, bs, rfl, hrd1, hrd2, HL.out, hl1, hl6, hok, hop.cap_le, how.cap_le, fun ad e => by have := (hge1 ad e).1; omega, fun ad e => by have := (hge2 ad e).1; omega⟩, by omega, (hr.big (by omega) _).big (by omega) _, (KK.setNew (Nat.le_refl _) _).setNew (Nat.le_refl _) _⟩
end Go.Proofs.YtdiigflbohbndaaDoor
