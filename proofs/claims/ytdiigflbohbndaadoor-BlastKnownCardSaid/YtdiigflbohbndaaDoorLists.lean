/- Airs, grades and lands made of a ring. -/
import Derived.Test.YtdiigflbohbndaaDoorKit3
import Derived.LoopTactic
namespace Go.Proofs.YtdiigflbohbndaaDoor
open Go.RowKit

structure Layer where
  thick : Int
  dens : Int
structure Grade where
  energy : Int
  reach : Int
def encLayer (x : Layer) : List Value := [.int .i64 x.thick, .int .i64 x.dens]
def encGrade (x : Grade) : List Value := [.int .i64 x.energy, .int .i64 x.reach]
def LayerOk (x : Layer) : Prop := 1 ≤ x.thick ∧ x.thick ≤ 200 ∧ 0 ≤ x.dens ∧ x.dens ≤ 1000

theorem Own.gt {α : Type} {w : World} {B e sz g : Nat} {enc : α → List Value} {v : Value} {xs : List α} (h : Own w B e sz enc v xs) (hg : g < B) : ∀ b, v.ownBlock = some b → g < b :=
  fun b hb => Nat.lt_of_lt_of_le hg (h.ge b hb).1

theorem layer_info : (Tryd.prog.info? 43).map (fun i => (i.zero, i.size, i.bytes)) = some (some (.agg #[.int .i64 0, .int .i64 0]), 2, 16) := by kernel_rfl
theorem grade_info : (Tryd.prog.info? 112).map (fun i => (i.zero, i.size, i.bytes)) = some (some (.agg #[.int .i64 0, .int .i64 0]), 2, 16) := by kernel_rfl

/-- the bound on the density behind so many layers -/
def densBd : Nat → Int
  | 0 => 1
  | n + 1 => 3 * densBd n + 3
theorem densBd_le (n : Nat) (h : n ≤ 6) : densBd n ≤ 2000 := by
  have : ∀ n, n ≤ 6 → densBd n ≤ 2000 := by decide
  exact this n h

/-- the loop of LayersOf, at the head of a round -/
def LayRel (g : Nat) (nums : List Int) (k0 : Nat) (W : World) (N : Nat) (l d n : Value) (wr : World) : Prop :=
  ∃ (ls : List Layer) (dd m : Int) (k : Nat), n = .int .i64 m ∧ 0 ≤ m ∧ m + ls.length = N ∧ N ≤ 6 ∧ d = .int .i64 dd ∧ 0 ≤ dd ∧ dd ≤ densBd ls.length ∧ k ≤ k0 + 2 + 3 * ls.length ∧
    Own wr W.heap.size 43 2 encLayer l ls ∧ (∀ x ∈ ls, LayerOk x) ∧ RingAt wr g nums k ∧ Kp W.heap.size (some g) W wr

set_option maxHeartbeats 1000000 in
theorem layersOf_any (g : Nat) (nums : List Int) (k : Nat) (w : World) (h : RingAt w g nums k) (hk : k ≤ 800000) :
    Calls Tryd.prog 18 #[.pointer (some ⟨g, 0, none⟩)] w
      (RPostB g nums (k + 20) w fun v w' => ∃ A cap ls, v = .slice A ls.length cap ∧ Rd (some g) w' 2 encLayer A ls.length ls ∧ ls.length ≤ 6 ∧ (∀ x ∈ ls, LayerOk x) ∧ ∀ ad, A = some ad → w.heap.size ≤ ad.block) := by
  obtain ⟨i0, hi, hz0, hz1, hz2⟩ := info_parts layer_info
  have hg := h.lt
  go_enter Tryd.func18, Tryd.ntmps18
  go_wp2_with fail
  refine (next_any g nums k _ _ h (by omega) (by omega) (by omega)).mono ?_
  rintro e w1 ⟨v, rfl, ⟨d0, rfl, p0, q0⟩, hr1, hk1⟩
  go_wp2_with fail
  refine (next_any g nums _ _ _ hr1 (by omega) (by omega) (by omega)).mono ?_
  rintro e w2 ⟨v, rfl, ⟨n0, rfl, p1, q1⟩, hr2, hk2⟩
  have K2 := hk1.then_ hk2 (Nat.le_refl _)
  obtain ⟨N, rfl⟩ := Int.eq_ofNat_of_zero_le p1
  clear hk1 hk2 hr1
  go_wp2_with fail
  go_loopw [3, 4, 5] (fun l d n wr => LayRel g nums k w N l d n wr) (fun _ _ n _ => (intOf n).toNat)
  case atStart => exact ⟨[], d0, N, _, rfl, by omega, by simp, by omega, rfl, by omega, by simp only [List.length_nil, densBd]; omega, by simp, Own.nil _ _ _ _ _, by simp, hr2, K2⟩
  case round =>
    obtain ⟨ls, dd, m, k', rfl, hm0, hm, hN, rfl, hd0, hd1, hk', hown, hok, hr, hK⟩ := hrel
    have hl6 : ls.length ≤ 6 := by omega
    have hm6 : m ≤ 6 := by omega
    have hbd := densBd_le ls.length hl6
    have HB := Lib.hid (show densBd (ls.length + 1) = 3 * densBd ls.length + 3 from rfl)
    have hg : g < w.heap.size := h.lt
    by_cases hmp : 0 < m
    · have hl5 : ls.length ≤ 5 := by omega
      have HM := Lib.hid hm
      clear hm
      go_wp2_with fail
      refine (range_any g nums _ 1 200 _ hr (by omega) (by omega) (by omega) (by omega) (by omega)).mono ?_
      rintro e w3 ⟨v, rfl, ⟨t, rfl, pt, qt⟩, hr3, hk3⟩
      have ow3 := hown.kp hk3 (fun b hb => sne (by omega))
      have hz3 : w.heap.size ≤ w3.heap.size := Nat.le_trans hK.size hk3.size
      have K3 := hK.then_ hk3 (Nat.le_refl _)
      clear hr hown hK hk3
      rcases (show dd < 1000 ∨ 1000 ≤ dd by omega) with hmin | hmin
      · go_wp2_with (at_builtin; refine wpList_append_own_at _ (by rfl) (.tmp 14) (.tmp 20) 33 (by rfl) w.heap.size 43 i0 _ 2 16 Tryd.underlying33 hi hz0 hz1 hz2 (by rfl) (by omega) u3 ls.length (ls.flatMap encLayer) (by rfl) (ow3.alloc _) ⟨w3.heap.size, 0, none⟩ 1 1 [.int .i64 t, .int .i64 dd] (by rfl) (by rfl) (two_new _ _ _ _) (two_int _ _ _) (maxLen_of (by omega)) (by omega) (alloc_ge hz3 _) ?_; intro v4 w4 hown4 hgrow _ hat)
        have ow4 : Own w4 w.heap.size 43 2 encLayer v4 (ls ++ [⟨t, dd⟩]) := by unfold Own; simpa [encLayer] using hown4
        have hr4 := (hr3.alloc _).grown hgrow (Own.gt ow3 hg)
        have K4 := (K3.alloc hz3 _).trans (Kp.of_own (row := some g) (ow3.alloc _) hgrow (alloc_ge hz3 _))
        clear hown4 hgrow hat ow3 hr3 K3
        go_wp2_with fail
        refine (range_any g nums _ 1 3 _ hr4 (by omega) (by omega) (by omega) (by omega) (by omega)).mono ?_
        rintro e w5 ⟨v, rfl, ⟨x, rfl, px, qx⟩, hr5, hk5⟩
        have ow5 := ow4.kp hk5 (fun b hb => sne (by omega))
        have K5 := K4.then_ hk5 (Nat.le_refl _)
        clear hr4 ow4 K4 hk5
        have hx0 : 0 ≤ dd * x := Int.mul_nonneg hd0 (by omega)
        have hx3 : dd * x ≤ dd * 3 := Int.mul_le_mul_of_nonneg_left qx hd0
        go_wp2_with fail
        refine (range_any g nums _ 0 3 _ hr5 (by omega) (by omega) (by omega) (by omega) (by omega)).mono ?_
        rintro e w6 ⟨v, rfl, ⟨y, rfl, py, qy⟩, hr6, hk6⟩
        have ow6 := ow5.kp hk6 (fun b hb => sne (by omega))
        have K6 := K5.then_ hk6 (Nat.le_refl _)
        clear hr5 ow5 K5 hk6
        go_wp2
        go_roundw
        case rel =>
          have hB := HB.out
          exact ⟨ls ++ [⟨t, dd⟩], dd * x + y, m - 1, _, rfl, by omega, by have := HM.out; simp only [List.length_append, List.length_cons, List.length_nil]; omega, hN, rfl, by omega, by simp only [List.length_append, List.length_cons, List.length_nil]; rw [show ls.length + (0 + 1) = ls.length + 1 from by omega, hB]; omega,
            by simp only [List.length_append, List.length_cons, List.length_nil]; omega, ow6, fun z hz => by
              rcases List.mem_append.1 hz with hz | hz
              · exact hok z hz
              · simp at hz; subst hz; exact ⟨pt, qt, by simp only; omega, by simp only; omega⟩, hr6, K6⟩
        case measure => simp [intOf]; omega
      · go_wp2_with (at_builtin; refine wpList_append_own_at _ (by rfl) (.tmp 14) (.tmp 20) 33 (by rfl) w.heap.size 43 i0 _ 2 16 Tryd.underlying33 hi hz0 hz1 hz2 (by rfl) (by omega) u3 ls.length (ls.flatMap encLayer) (by rfl) (ow3.alloc _) ⟨w3.heap.size, 0, none⟩ 1 1 [.int .i64 t, .int .i64 1000] (by rfl) (by rfl) (two_new _ _ _ _) (two_int _ _ _) (maxLen_of (by omega)) (by omega) (alloc_ge hz3 _) ?_; intro v4 w4 hown4 hgrow _ hat)
        have ow4 : Own w4 w.heap.size 43 2 encLayer v4 (ls ++ [⟨t, 1000⟩]) := by unfold Own; simpa [encLayer] using hown4
        have hr4 := (hr3.alloc _).grown hgrow (Own.gt ow3 hg)
        have K4 := (K3.alloc hz3 _).trans (Kp.of_own (row := some g) (ow3.alloc _) hgrow (alloc_ge hz3 _))
        clear hown4 hgrow hat ow3 hr3 K3
        go_wp2_with fail
        refine (range_any g nums _ 1 3 _ hr4 (by omega) (by omega) (by omega) (by omega) (by omega)).mono ?_
        rintro e w5 ⟨v, rfl, ⟨x, rfl, px, qx⟩, hr5, hk5⟩
        have ow5 := ow4.kp hk5 (fun b hb => sne (by omega))
        have K5 := K4.then_ hk5 (Nat.le_refl _)
        clear hr4 ow4 K4 hk5
        have hx0 : 0 ≤ dd * x := Int.mul_nonneg hd0 (by omega)
        have hx3 : dd * x ≤ dd * 3 := Int.mul_le_mul_of_nonneg_left qx hd0
        go_wp2_with fail
        refine (range_any g nums _ 0 3 _ hr5 (by omega) (by omega) (by omega) (by omega) (by omega)).mono ?_
        rintro e w6 ⟨v, rfl, ⟨y, rfl, py, qy⟩, hr6, hk6⟩
        have ow6 := ow5.kp hk6 (fun b hb => sne (by omega))
        have K6 := K5.then_ hk6 (Nat.le_refl _)
        clear hr5 ow5 K5 hk6
        go_wp2
        go_roundw
        case rel =>
          have hB := HB.out
          exact ⟨ls ++ [⟨t, 1000⟩], dd * x + y, m - 1, _, rfl, by omega, by have := HM.out; simp only [List.length_append, List.length_cons, List.length_nil]; omega, hN, rfl, by omega, by simp only [List.length_append, List.length_cons, List.length_nil]; rw [show ls.length + (0 + 1) = ls.length + 1 from by omega, hB]; omega,
            by simp only [List.length_append, List.length_cons, List.length_nil]; omega, ow6, fun z hz => by
              rcases List.mem_append.1 hz with hz | hz
              · exact hok z hz
              · simp at hz; subst hz; exact ⟨pt, qt, by simp only; omega, by simp only; omega⟩, hr6, K6⟩
        case measure => simp [intOf]; omega
    · obtain ⟨A, cap, rfl, hrd, hge⟩ := hown.rd (row := some g) (fun _ => rfl) (fun b hb => sne (by omega))
      go_wp2
      go_ret
      exact ⟨_, k', rfl, ⟨A, cap, ls, rfl, hrd, hl6, hok, fun ad e => (hge ad e).1⟩, by omega, hr, hK⟩
end Go.Proofs.YtdiigflbohbndaaDoor
