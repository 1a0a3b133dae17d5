/- Grades and lands made of a ring. -/
import Derived.Test.YtdiigflbohbndaaDoorLists
namespace Go.Proofs.YtdiigflbohbndaaDoor
open Go.RowKit

structure GradesOk (ls : List Grade) : Prop where
  ne : 1 ≤ ls.length
  le : ls.length ≤ 32
  rng : ∀ x ∈ ls, 0 ≤ x.energy ∧ x.energy ≤ 1152921504606846976 ∧ 0 ≤ x.reach ∧ x.reach ≤ 400
  inc : ls.Pairwise fun a b => a.energy < b.energy ∧ a.reach ≤ b.reach

/-- the bound on the energy behind so many grades -/
def enerBd : Nat → Int
  | 0 => 2000
  | n + 1 => 30 * enerBd n + 1000
theorem enerBd_le (n : Nat) (h : n ≤ 6) : enerBd n ≤ 2000000000000 := by
  have : ∀ n, n ≤ 6 → enerBd n ≤ 2000000000000 := by decide
  exact this n h

def GradeRel (g : Nat) (nums : List Int) (k0 : Nat) (W : World) (N : Nat) (l en re n : Value) (wr : World) : Prop :=
  ∃ (ls : List Grade) (e r m : Int) (k : Nat), n = .int .i64 m ∧ 0 ≤ m ∧ m + ls.length = N ∧ 1 ≤ N ∧ N ≤ 6 ∧ en = .int .i64 e ∧ re = .int .i64 r ∧ 0 ≤ e ∧ e ≤ enerBd ls.length ∧ 0 ≤ r ∧ r ≤ 1 + 3 * ls.length ∧ k ≤ k0 + 3 + 2 * ls.length ∧
    Own wr W.heap.size 112 2 encGrade l ls ∧ (∀ x ∈ ls, 0 ≤ x.energy ∧ x.energy < e ∧ 0 ≤ x.reach ∧ x.reach ≤ r) ∧ (ls.Pairwise fun a b => a.energy < b.energy ∧ a.reach ≤ b.reach) ∧ RingAt wr g nums k ∧ Kp W.heap.size (some g) W wr

set_option maxHeartbeats 1000000 in
theorem gradesOf_any (g : Nat) (nums : List Int) (k : Nat) (w : World) (h : RingAt w g nums k) (hk : k ≤ 800000) :
    Calls Tryd.prog 25 #[.pointer (some ⟨g, 0, none⟩)] w
      (RPostB g nums (k + 20) w fun v w' => ∃ A cap ls, v = .slice A ls.length cap ∧ Rd (some g) w' 2 encGrade A ls.length ls ∧ GradesOk ls ∧ ls.length ≤ 6 ∧ ∀ ad, A = some ad → w.heap.size ≤ ad.block) := by
  obtain ⟨i0, hi, hz0, hz1, hz2⟩ := info_parts grade_info
  have hg := h.lt
  go_enter Tryd.func25, Tryd.ntmps25
  go_wp2_with fail
  refine (next_any g nums k _ _ h (by omega) (by omega) (by omega)).mono ?_
  rintro e w1 ⟨v, rfl, ⟨d0, rfl, p0, q0⟩, hr1, hk1⟩
  go_wp2_with fail
  refine (next_any g nums _ _ _ hr1 (by omega) (by omega) (by omega)).mono ?_
  rintro e w2 ⟨v, rfl, ⟨r0, rfl, p1, q1⟩, hr2, hk2⟩
  have K2 := hk1.then_ hk2 (Nat.le_refl _)
  clear hk1 hk2 hr1
  go_wp2_with fail
  refine (next_any g nums _ _ _ hr2 (by omega) (by omega) (by omega)).mono ?_
  rintro e w3 ⟨v, rfl, ⟨n0, rfl, p2, q2⟩, hr3, hk3⟩
  have K3 := K2.then_ hk3 (Nat.le_refl _)
  obtain ⟨N, rfl⟩ := Int.eq_ofNat_of_zero_le p2
  clear hk3 hr2 K2
  go_wp2_with fail
  go_loopw [3, 4, 5, 6] (fun l en re n wr => GradeRel g nums k w (1 + N) l en re n wr) (fun _ _ _ n _ => (intOf n).toNat)
  case atStart => exact ⟨[], d0 * 1000, r0, 1 + N, _, rfl, by omega, by simp, by omega, by omega, rfl, rfl, by omega, by simp only [List.length_nil, enerBd]; omega, by omega, by simp; omega, by simp, Own.nil _ _ _ _ _, by simp, List.Pairwise.nil, hr3, K3⟩
  case round =>
    obtain ⟨ls, e, r, m, k', rfl, hm0, hm, hN1, hN, rfl, rfl, he0, he1, hr0, hr1, hk', hown, hok, hpw, hr, hK⟩ := hrel
    have hl6 : ls.length ≤ 6 := by omega
    have hm6 : m ≤ 6 := by omega
    have hbd := enerBd_le ls.length hl6
    have HB := Lib.hid (show enerBd (ls.length + 1) = 30 * enerBd ls.length + 1000 from rfl)
    by_cases hmp : 0 < m
    · have hl5 : ls.length ≤ 5 := by omega
      have HM := Lib.hid hm
      clear hm
      have hzr : w.heap.size ≤ wr.heap.size := hK.size
      go_wp2_with (at_builtin; refine wpList_append_own_at _ (by rfl) (.tmp 19) (.tmp 23) 49 (by rfl) w.heap.size 112 i0 _ 2 16 Tryd.underlying49 hi hz0 hz1 hz2 (by rfl) (by omega) u3 ls.length (ls.flatMap encGrade) (by rfl) (hown.alloc _) ⟨wr.heap.size, 0, none⟩ 1 1 [.int .i64 e, .int .i64 r] (by rfl) (by rfl) (two_new _ _ _ _) (two_int _ _ _) (maxLen_of (by omega)) (by omega) (alloc_ge hzr _) ?_; intro v4 w4 hown4 hgrow _ hat)
      have ow4 : Own w4 w.heap.size 112 2 encGrade v4 (ls ++ [⟨e, r⟩]) := by unfold Own; simpa [encGrade] using hown4
      have hr4 := (hr.alloc _).grown hgrow (Own.gt hown hg)
      have K4 := (hK.alloc hzr _).trans (Kp.of_own (row := some g) (hown.alloc _) hgrow (alloc_ge hzr _))
      clear hown4 hgrow hat hown hr hK
      go_wp2_with fail
      refine (range_any g nums _ 1 1000 _ hr4 (by omega) (by omega) (by omega) (by omega) (by omega)).mono ?_
      rintro e w5 ⟨v, rfl, ⟨x, rfl, px, qx⟩, hr5, hk5⟩
      have ow5 := ow4.kp hk5 (fun b hb => sne (by omega))
      have K5 := K4.then_ hk5 (Nat.le_refl _)
      clear hr4 ow4 K4 hk5
      go_wp2_with fail
      refine (range_any g nums _ 0 3 _ hr5 (by omega) (by omega) (by omega) (by omega) (by omega)).mono ?_
      rintro e w6 ⟨v, rfl, ⟨y, rfl, py, qy⟩, hr6, hk6⟩
      have ow6 := ow5.kp hk6 (fun b hb => sne (by omega))
      have K6 := K5.then_ hk6 (Nat.le_refl _)
      clear hr5 ow5 K5 hk6
      go_wp2
      go_roundw
      case rel =>
        have hB := HB.out
        refine ⟨ls ++ [⟨e, r⟩], e * 30 + x, r + y, m - 1, _, rfl, by omega, by have := HM.out; simp only [List.length_append, List.length_cons, List.length_nil]; omega, hN1, hN, rfl, rfl, by omega, by simp only [List.length_append, List.length_cons, List.length_nil]; rw [show ls.length + (0 + 1) = ls.length + 1 from by omega, hB]; omega,
          by omega, by simp only [List.length_append, List.length_cons, List.length_nil]; omega, by simp only [List.length_append, List.length_cons, List.length_nil]; omega, ow6, fun z hz => ?_, ?_, hr6, K6⟩
        · rcases List.mem_append.1 hz with hz | hz
          · have := hok z hz; omega
          · simp at hz; subst hz; simp only; omega
        · rw [List.pairwise_append]
          refine ⟨hpw, by simp, fun a ha b hb => ?_⟩
          simp at hb; subst hb
          have := hok a ha
          simp only; omega
      case measure => simp [intOf]; omega
    · obtain ⟨A, cap, rfl, hrd, hge⟩ := hown.rd (row := some g) (fun _ => rfl) (fun b hb => sne (by omega))
      go_wp2
      go_ret
      refine ⟨_, k', rfl, ⟨A, cap, ls, rfl, hrd, ⟨by omega, by omega, fun x hx => ?_, hpw⟩, hl6, fun ad e => (hge ad e).1⟩, by omega, hr, hK⟩
      have := hok x hx; omega
end Go.Proofs.YtdiigflbohbndaaDoor
