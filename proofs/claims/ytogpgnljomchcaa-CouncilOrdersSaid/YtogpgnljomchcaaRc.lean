/- Levels and votes asked: the reference. -/
import Derived.Test.YtogpgnljomchcaaRb
namespace Go.Proofs.Ytogpgnljomchcaa
open Go.RowKit

set_option maxHeartbeats 1000000 in
theorem ref_votes_any (x : LawC) (yes no : Int) (B : Nat) (V : CV) (c : Council) (w : World) (h : CAt B w V c) (hc : CouncilOk c) (hx : LawIn x) (hy : 0 ≤ yes) (hn : 0 ≤ no) (hyn : yes + no ≤ 2251799813685248) :
    Calls Try.prog 59 #[.agg #[.slice V.am c.members.length V.cm, .slice V.al c.laws.length V.cl, .slice V.av c.levels.length V.cv], .agg #[.int .i64 x.act, .int .i64 x.level, .int .i64 x.window, .int .i64 x.quorum, .int .i64 x.share], .int .i64 yes, .int .i64 no] w fun e w' => e = .returned (.bool (votesOk c x yes no)) ∧ Kp w.heap.size none w w' := by
  have hA := (Blk.new w 26 #[.slice V.am c.members.length V.cm, .slice V.al c.laws.length V.cl, .slice V.av c.levels.length V.cv]).alloc (.cells #[.int .i64 x.act, .int .i64 x.level, .int .i64 x.window, .int .i64 x.quorum, .int .i64 x.share] 61)
  have hB := Blk.newAt (w.alloc (.cells #[.slice V.am c.members.length V.cm, .slice V.al c.laws.length V.cl, .slice V.av c.levels.length V.cv] 26)) 61 #[.int .i64 x.act, .int .i64 x.level, .int .i64 x.window, .int .i64 x.quorum, .int .i64 x.share] (n := w.heap.size + 1) (by simp)
  have KK := Kp.new2 w (.cells #[.slice V.am c.members.length V.cm, .slice V.al c.laws.length V.cl, .slice V.av c.levels.length V.cv] 26) (.cells #[.int .i64 x.act, .int .i64 x.level, .int .i64 x.window, .int .i64 x.quorum, .int .i64 x.share] 61)
  obtain ⟨R, hR⟩ : ∃ R, R = votesOk c x yes no := ⟨_, rfl⟩
  rw [← hR]
  replace hR := Lib.hid hR
  have hs := sumW_bd c.members hc.mem
  have hl : (c.members.length : Int) ≤ 64 := by have := hc.mlen; omega
  have hm := hc.mlen
  obtain ⟨am, cm, al, cl, av, cv⟩ := V
  have hw := hc.mem
  replace hc := Lib.hid hc
  replace hw := Lib.hid hw
  go_enter Try.func59, Try.ntmps59
  go_wp2_with fail
  obtain ⟨b1, hb1⟩ : ∃ q, q = w.heap.size := ⟨_, rfl⟩
  obtain ⟨b2, hb2⟩ : ∃ q, q = w.heap.size + 1 := ⟨_, rfl⟩
  rw [← hb2] at hB ⊢
  rw [← hb1] at hA ⊢
  generalize hw0 : (w.alloc (.cells #[.slice am c.members.length cm, .slice al c.laws.length cl, .slice av c.levels.length cv] 26)).alloc (.cells #[.int .i64 x.act, .int .i64 x.level, .int .i64 x.window, .int .i64 x.quorum, .int .i64 x.share] 61) = w0 at hA hB KK ⊢
  clear hw0 hb1 hb2
  replace h : Rd none w0 2 encMember am c.members.length c.members := (h.kpN KK).m.rdN
  go_loopw [10, 9] (fun v n wr => SumAt c.members w0 v n wr) (fun v _ _ => c.members.length - (intOf v).toNat)
  case atStart => exact ⟨0, 0, rfl, rfl, by omega, by omega, by omega, by simp, Kp.refl _ _ _⟩
  case round =>
    obtain ⟨i, s, rfl, rfl, hi, hs0, hs1, hj, K1⟩ := hrel
    replace hA := hA.kpN K1
    replace hB := hB.kpN K1
    have ca := fun i => hA.cell i
    by_cases h7 : i < c.members.length
    · obtain ⟨b, o, rfl, hb, -, hc⟩ := (h.kpN K1).at_ (by omega)
      have c1 : wr.cell? ⟨b, o + i * 2 + 1, none⟩ = some (.int .i64 c.members[i].weight) := by rw [Nat.add_assoc]; exact hc i h7 1 _ rfl
      have hi' : (i : Int) < (c.members.length : Int) := by omega
      have hwi := hw.out c.members[i] (List.getElem_mem h7)
      have hj2 : s + (c.members[i].weight + ((c.members.drop (i + 1)).map Member.weight).sum) = (c.members.map Member.weight).sum := by
        rw [List.drop_eq_getElem_cons h7, List.map_cons, List.sum_cons] at hj
        exact hj
      replace h := Lib.hid h
      generalize c.members[i] = y at c1 hwi hj2
      replace hj2 := Lib.hid hj2
      have hb2 : s + y.weight ≤ ((i + 1 : Nat) : Int) * 1099511627776 := by push_cast; omega
      have hb1 : s + y.weight ≤ 70368744177664 := by omega
      have hb0 : 0 ≤ s + y.weight := by omega
      replace hb2 := Lib.hid hb2
      have hwr : wrap64 (s + y.weight) = s + y.weight := IntWalk.wrap64_in _ (by omega)
      replace h7 := Lib.hid h7
      clear hj hc hs1 hi hs
      go_wp2
      go_roundw
      case rel => exact ⟨i + 1, s + y.weight, rfl, rfl, h7.out, hb0, hb2.out, by rw [← hj2.out]; omega, K1⟩
      case measure => have := h7.out; simp [intOf]; omega
    · have he : i = c.members.length := by omega
      have hi' : ¬ (i : Int) < (c.members.length : Int) := by omega
      rw [he, List.drop_length] at hj
      have hj : s = (c.members.map Member.weight).sum := by simpa using hj
      replace KK := KK.thenN K1 (Nat.le_refl _)
      clear h7 hi hs0 hs1 h K1
      subst he
      subst hj
      have cb := fun i => hB.cell i
      replace hR := Lib.hid (show R = (decide (x.quorum * (c.members.map Member.weight).sum ≤ (yes + no) * 1000) && decide (x.share * (c.members.map Member.weight).sum ≤ yes * 1000)) by rw [hR.out, Int.mul_comm (yes + no), Int.mul_comm yes]; rfl)
      clear hw hc
      generalize (c.members.map Member.weight).sum = S at hs hR ⊢
      have hS1 : S ≤ 70368744177664 := by omega
      have hS0 := hs.1
      have e1 := mul_wrap hx.q0 hx.q1 hS0 hS1
      have e2 := mul_wrap hx.s0 hx.s1 hS0 hS1
      have e3 : wrap64 (yes + no) = yes + no := IntWalk.wrap64_in _ (by omega)
      have e4 : wrap64 ((yes + no) * 1000) = (yes + no) * 1000 := IntWalk.wrap64_in _ (by omega)
      have e5 : wrap64 (yes * 1000) = yes * 1000 := IntWalk.wrap64_in _ (by omega)
      clear hs hm hl hS0 hS1 hx hy hn hyn
      go_wp2
      all_goals
        go_ret
        refine ⟨ret_bool ?_, KK⟩
        rw [hR.out]
        rename_i hlt
        first
          | (rw [decide_eq_true hlt, Bool.true_and]; done)
          | (rw [decide_eq_true hlt, Bool.true_and])
          | (rw [decide_eq_false (Int.not_le.2 hlt), Bool.false_and])

set_option maxHeartbeats 800000 in
theorem ref_Level_any (x : Chance) (B : Nat) (V : CV) (c : Council) (w : World) (h : CAt B w V c) :
    Calls Try.prog 29 #[.agg #[.slice V.am c.members.length V.cm, .slice V.al c.laws.length V.cl, .slice V.av c.levels.length V.cv], .agg #[.int .i64 x.least, .int .i64 x.most, .int .i64 x.all]] w fun e w' => e = .returned (.int .i64 (levelI c x)) ∧ Kp w.heap.size none w w' := by
  have hA := (Blk.new w 26 #[.slice V.am c.members.length V.cm, .slice V.al c.laws.length V.cl, .slice V.av c.levels.length V.cv]).alloc (.cells #[.int .i64 x.least, .int .i64 x.most, .int .i64 x.all] 29)
  have hB := Blk.newAt (w.alloc (.cells #[.slice V.am c.members.length V.cm, .slice V.al c.laws.length V.cl, .slice V.av c.levels.length V.cv] 26)) 29 #[.int .i64 x.least, .int .i64 x.most, .int .i64 x.all] (n := w.heap.size + 1) (by simp)
  have KK := Kp.new2 w (.cells #[.slice V.am c.members.length V.cm, .slice V.al c.laws.length V.cl, .slice V.av c.levels.length V.cv] 26) (.cells #[.int .i64 x.least, .int .i64 x.most, .int .i64 x.all] 29)
  obtain ⟨R, hR⟩ : ∃ R, R = levelI c x := ⟨_, rfl⟩
  rw [← hR]
  unfold levelI at hR
  replace hR := Lib.hid hR
  go_enter Try.func29, Try.ntmps29
  go_wp2_with fail
  generalize (w.alloc (.cells #[.slice V.am c.members.length V.cm, .slice V.al c.laws.length V.cl, .slice V.av c.levels.length V.cv] 26)).alloc (.cells #[.int .i64 x.least, .int .i64 x.most, .int .i64 x.all] 29) = w0 at hA hB KK ⊢
  replace h := h.kpN KK
  refine (ref_Check_any B V c _ h).mono ?_
  rintro e w1 ⟨rfl, k1⟩
  replace hA := hA.kpN k1
  replace hB := hB.kpN k1
  replace h := h.kpN k1
  replace KK := KK.thenN k1 (Nat.le_refl _)
  have ca := fun i => hA.cell i
  have cb := fun i => hB.cell i
  by_cases hc : checkC c = 0
  · rw [hc]
    have hok := Lib.hid (councilOk_of hc)
    go_wp2_with fail
    refine (ref_CheckChance_any x _).mono ?_
    rintro e w2 ⟨rfl, k2⟩
    replace hA := hA.kpN k2
    replace hB := hB.kpN k2
    replace h := h.kpN k2
    replace KK := KK.thenN k2 (Nat.le_refl _)
    have ca := fun i => hA.cell i
    have cb := fun i => hB.cell i
    by_cases hx : chanceErr x = 0
    · rw [hx]
      have hR2 := Lib.hid (show (levelOf c x : Int) = R by rw [hR.out, if_pos ⟨hc, hx⟩])
      have hx2 := Lib.hid hx
      clear hx hc
      go_wp2_with fail
      refine (ref_level_any x B V c _ h hok.out.vlen hok.out.lev hx2.out).mono ?_
      rintro e w3 ⟨rfl, k3⟩
      replace KK := KK.thenN k3 (Nat.le_refl _)
      rw [hR2.out]
      go_wp2
      go_ret
      exact ⟨rfl, KK⟩
    · have hR2 := Lib.hid (show -1 = R by rw [hR.out, if_neg (fun q => hx q.2)])
      have hx3 : chanceErr x = 3 := by unfold chanceErr at hx ⊢; split at hx <;> simp_all
      rw [hx3]
      clear hx hc hx3
      go_wp2
      go_ret
      exact ⟨ret_int hR2.out, KK⟩
  · have hR2 := Lib.hid (show -1 = R by rw [hR.out, if_neg (fun q => hc q.1)])
    generalize checkC c = n at hc ⊢
    go_wp2
    go_ret
    exact ⟨ret_int hR2.out, KK⟩


set_option maxHeartbeats 1000000 in
theorem ref_Votes_any (act yes no : Int) (B : Nat) (V : CV) (c : Council) (w : World) (h : CAt B w V c) :
    Calls Try.prog 32 #[.agg #[.slice V.am c.members.length V.cm, .slice V.al c.laws.length V.cl, .slice V.av c.levels.length V.cv], .int .i64 act, .int .i64 yes, .int .i64 no] w fun e w' => e = .returned (.bool (votesB c act yes no)) ∧ Kp w.heap.size none w w' := by
  have hA := Blk.new w 26 #[.slice V.am c.members.length V.cm, .slice V.al c.laws.length V.cl, .slice V.av c.levels.length V.cv]
  have KK := Kp.new w (.cells #[.slice V.am c.members.length V.cm, .slice V.al c.laws.length V.cl, .slice V.av c.levels.length V.cv] 26)
  obtain ⟨R, hR⟩ : ∃ R, R = votesB c act yes no := ⟨_, rfl⟩
  rw [← hR]
  unfold votesB at hR
  replace hR := Lib.hid hR
  go_enter Try.func32, Try.ntmps32
  go_wp2_with fail
  generalize w.alloc (.cells #[.slice V.am c.members.length V.cm, .slice V.al c.laws.length V.cl, .slice V.av c.levels.length V.cv] 26) = w0 at hA KK ⊢
  replace h := h.kpN KK
  refine (ref_lawOf_any act B V c _ h).mono ?_
  rintro e w1 ⟨rfl, k1⟩
  have hle1 := k1.size
  replace hA := (hA.kpN k1).alloc (.cells #[.int .i64 (lawD c act).act, .int .i64 (lawD c act).level, .int .i64 (lawD c act).window, .int .i64 (lawD c act).quorum, .int .i64 (lawD c act).share] 61)
  replace h := h.kpN (k1.alloc hle1 (.cells #[.int .i64 (lawD c act).act, .int .i64 (lawD c act).level, .int .i64 (lawD c act).window, .int .i64 (lawD c act).quorum, .int .i64 (lawD c act).share] 61))
  replace KK := (KK.thenN k1 (Nat.le_refl _)).alloc (Nat.le_trans KK.size hle1) (.cells #[.int .i64 (lawD c act).act, .int .i64 (lawD c act).level, .int .i64 (lawD c act).window, .int .i64 (lawD c act).quorum, .int .i64 (lawD c act).share] 61)
  have hB := Blk.new w1 61 #[.int .i64 (lawD c act).act, .int .i64 (lawD c act).level, .int .i64 (lawD c act).window, .int .i64 (lawD c act).quorum, .int .i64 (lawD c act).share]
  have ca := fun i => hA.cell i
  clear k1 hle1
  have hlw := Lib.hid (fun hc => lawIn_of (c := c) hc act)
  generalize lawD c act = lw at hA hB h KK ca hR hlw ⊢
  generalize (lawOf c act).isSome = d at hR ⊢
  have cb := fun i => hB.cell i
  go_wp2_with fail
  generalize w1.alloc (.cells #[.int .i64 lw.act, .int .i64 lw.level, .int .i64 lw.window, .int .i64 lw.quorum, .int .i64 lw.share] 61) = w2 at hA hB h KK ca cb ⊢
  refine (ref_Check_any B V c _ h).mono ?_
  rintro e w3 ⟨rfl, k3⟩
  replace hA := hA.kpN k3
  replace hB := hB.kpN k3
  replace h := h.kpN k3
  replace KK := KK.thenN k3 (Nat.le_refl _)
  clear k3 ca cb
  by_cases hc : ¬ checkC c = 0
  · have hR2 := Lib.hid (show false = R by rw [hR.out, decide_eq_false hc]; simp)
    generalize checkC c = n at hc ⊢
    go_wp2
    go_ret
    exact ⟨ret_bool hR2.out, KK⟩
  replace hc := Decidable.not_not.1 hc
  rw [hc]
  have hok := councilOk_of hc
  have hlw := Lib.hid (hlw.out hok)
  replace hok := Lib.hid hok
  replace hR := Lib.hid (show R = (d && bt yes 0 1125899906842624 && bt no 0 1125899906842624 && votesOk c lw yes no) by rw [hR.out, decide_eq_true hc]; simp)
  clear hc
  cases d
  · have hR2 := Lib.hid (show false = R by rw [hR.out]; simp)
    go_wp2
    go_ret
    exact ⟨ret_bool hR2.out, KK⟩
  go_wp2_with fail
  refine (bolideref09_between_any _ _ _ _).mono ?_
  rintro e w4 ⟨rfl, k4⟩
  replace hA := hA.kpN k4
  replace hB := hB.kpN k4
  replace h := h.kpN k4
  replace KK := KK.thenN k4 (Nat.le_refl _)
  clear k4
  cases hb1 : bt yes 0 1125899906842624
  · have hR2 := Lib.hid (show false = R by rw [hR.out, hb1]; simp)
    go_wp2
    go_ret
    exact ⟨ret_bool hR2.out, KK⟩
  go_wp2_with fail
  refine (bolideref09_between_any _ _ _ _).mono ?_
  rintro e w4 ⟨rfl, k4⟩
  replace hA := hA.kpN k4
  replace hB := hB.kpN k4
  replace h := h.kpN k4
  replace KK := KK.thenN k4 (Nat.le_refl _)
  clear k4
  cases hb2 : bt no 0 1125899906842624
  · have hR2 := Lib.hid (show false = R by rw [hR.out, hb2]; simp)
    go_wp2
    go_ret
    exact ⟨ret_bool hR2.out, KK⟩
  have hR2 := Lib.hid (show votesOk c lw yes no = R by rw [hR.out, hb1, hb2]; simp)
  have i1 := Lib.hid (bt_true hb1)
  have i2 := Lib.hid (bt_true hb2)
  have ca := fun i => hA.cell i
  have cb := fun i => hB.cell i
  clear hb1 hb2
  go_wp2_with fail
  refine (ref_votes_any lw yes no B V c _ h hok.out hlw.out i1.out.1 i2.out.1 (by have := i1.out; have := i2.out; omega)).mono ?_
  rintro e w5 ⟨rfl, k5⟩
  replace KK := KK.thenN k5 (Nat.le_refl _)
  rw [hR2.out]
  go_wp2
  go_ret
  exact ⟨rfl, KK⟩
end Go.Proofs.Ytogpgnljomchcaa
