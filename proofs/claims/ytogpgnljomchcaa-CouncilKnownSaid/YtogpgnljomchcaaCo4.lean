/- Whether weights suffice: the program. Small functions of a house. -/
import Derived.Test.YtogpgnljomchcaaCo3
namespace Go.Proofs.Ytogpgnljomchcaa
open Go.RowKit

set_option maxHeartbeats 1000000 in
theorem council_Votes_any (act yes no : Int) (B : Nat) (V : CV) (c : Council) (w : World) (h : CAt B w V c) :
    Calls Try.prog 31 #[.agg #[.slice V.am c.members.length V.cm, .slice V.al c.laws.length V.cl, .slice V.av c.levels.length V.cv], .int .i64 act, .int .i64 yes, .int .i64 no] w fun e w' => e = .returned (.bool (votesB c act yes no)) ∧ Kp w.heap.size none w w' := by
  have hA := Blk.new w 26 #[.slice V.am c.members.length V.cm, .slice V.al c.laws.length V.cl, .slice V.av c.levels.length V.cv]
  have KK := Kp.new w (.cells #[.slice V.am c.members.length V.cm, .slice V.al c.laws.length V.cl, .slice V.av c.levels.length V.cv] 26)
  obtain ⟨R, hR⟩ : ∃ R, R = votesB c act yes no := ⟨_, rfl⟩
  rw [← hR]
  unfold votesB at hR
  replace hR := Lib.hid hR
  go_enter Try.func31, Try.ntmps31
  go_wp2_with fail
  generalize w.alloc (.cells #[.slice V.am c.members.length V.cm, .slice V.al c.laws.length V.cl, .slice V.av c.levels.length V.cv] 26) = w0 at hA KK ⊢
  replace h := h.kpN KK
  refine (council_law_any act B V c _ h).mono ?_
  rintro e w1 ⟨rfl, k1⟩
  have hle1 := k1.size
  replace hA := (hA.kpN k1).alloc (.cells #[.int .i64 (lawD c act).act, .int .i64 (lawD c act).level, .int .i64 (lawD c act).window, .int .i64 (lawD c act).quorum, .int .i64 (lawD c act).share] 61)
  replace h := h.kpN (k1.alloc hle1 (.cells #[.int .i64 (lawD c act).act, .int .i64 (lawD c act).level, .int .i64 (lawD c act).window, .int .i64 (lawD c act).quorum, .int .i64 (lawD c act).share] 61))
  replace KK := (KK.thenN k1 (Nat.le_refl _)).alloc (Nat.le_trans KK.size hle1) (.cells #[.int .i64 (lawD c act).act, .int .i64 (lawD c act).level, .int .i64 (lawD c act).window, .int .i64 (lawD c act).quorum, .int .i64 (lawD c act).share] 61)
  have hB := Blk.new w1 61 #[.int .i64 (lawD c act).act, .int .i64 (lawD c act).level, .int .i64 (lawD c act).window, .int .i64 (lawD c act).quorum, .int .i64 (lawD c act).share]
  have ca := fun i => hA.cell i
  clear k1 hle1
  have hlw := Lib.hid (fun hc => lawIn_of (c := c) hc act)
  generalize lawD c act = lw at hA hB h KK ca hR hlw ⊢
  generalize (lawOf c act).isSome = d at hR ⊢
  have cb := fun i => hB.cell i
  go_wp2_with fail
  generalize w1.alloc (.cells #[.int .i64 lw.act, .int .i64 lw.level, .int .i64 lw.window, .int .i64 lw.quorum, .int .i64 lw.share] 61) = w2 at hA hB h KK ca cb ⊢
  refine (council_Check_any B V c _ h).mono ?_
  rintro e w3 ⟨rfl, k3⟩
  replace hA := hA.kpN k3
  replace hB := hB.kpN k3
  replace h := h.kpN k3
  replace KK := KK.thenN k3 (Nat.le_refl _)
  clear k3 ca cb
  by_cases hc : ¬ checkC c = 0
  · have hR2 := Lib.hid (show false = R by rw [hR.out, decide_eq_false hc]; simp)
    generalize checkC c = n at hc ⊢
    go_wp2
    go_ret
    exact ⟨ret_bool hR2.out, KK⟩
  replace hc := Decidable.not_not.1 hc
  rw [hc]
  have hok := councilOk_of hc
  have hlw := Lib.hid (hlw.out hok)
  replace hok := Lib.hid hok
  replace hR := Lib.hid (show R = (d && bt yes 0 1125899906842624 && bt no 0 1125899906842624 && votesOk c lw yes no) by rw [hR.out, decide_eq_true hc]; simp)
  clear hc
  cases d
  · have hR2 := Lib.hid (show false = R by rw [hR.out]; simp)
    go_wp2
    go_ret
    exact ⟨ret_bool hR2.out, KK⟩
  go_wp2_with fail
  refine (council_within_any _ _ _ _).mono ?_
  rintro e w4 ⟨rfl, k4⟩
  replace hA := hA.kpN k4
  replace hB := hB.kpN k4
  replace h := h.kpN k4
  replace KK := KK.thenN k4 (Nat.le_refl _)
  clear k4
  cases hb1 : bt yes 0 1125899906842624
  · have hR2 := Lib.hid (show false = R by rw [hR.out, hb1]; simp)
    go_wp2
    go_ret
    exact ⟨ret_bool hR2.out, KK⟩
  go_wp2_with fail
  refine (council_within_any _ _ _ _).mono ?_
  rintro e w4 ⟨rfl, k4⟩
  replace hA := hA.kpN k4
  replace hB := hB.kpN k4
  replace h := h.kpN k4
  replace KK := KK.thenN k4 (Nat.le_refl _)
  clear k4
  cases hb2 : bt no 0 1125899906842624
  · have hR2 := Lib.hid (show false = R by rw [hR.out, hb2]; simp)
    go_wp2
    go_ret
    exact ⟨ret_bool hR2.out, KK⟩
  have hR2 := Lib.hid (show votesOk c lw yes no = R by rw [hR.out, hb1, hb2]; simp)
  have i1 := Lib.hid (bt_true hb1)
  have i2 := Lib.hid (bt_true hb2)
  have ca := fun i => hA.cell i
  have cb := fun i => hB.cell i
  clear hb1 hb2
  go_wp2_with fail
  refine (council_votes_any lw yes no B V c _ h hok.out hlw.out i1.out.1 i2.out.1 (by have := i1.out; have := i2.out; omega)).mono ?_
  rintro e w5 ⟨rfl, k5⟩
  replace KK := KK.thenN k5 (Nat.le_refl _)
  rw [hR2.out]
  go_wp2
  go_ret
  exact ⟨rfl, KK⟩
end Go.Proofs.Ytogpgnljomchcaa
