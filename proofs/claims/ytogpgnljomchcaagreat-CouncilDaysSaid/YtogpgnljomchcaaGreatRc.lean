/- Levels and votes asked: the reference. -/
import Derived.Test.YtogpgnljomchcaaGreatRb
namespace Go.Proofs.YtogpgnljomchcaaGreat
open Go.RowKit

set_option maxHeartbeats 1000000 in
theorem ref_votes_any (x : LawC) (yes no : Int) (B : Nat) (V : CV) (c : Council) (w : World) (h : CAt B w V c) (hc : CouncilOk c) (hx : LawIn x) (hy : 0 ≤ yes) (hn : 0 ≤ no) (hyn : yes + no ≤ 2251799813685248) :
    Calls Tryz.prog 99 #[.agg #[.slice V.am c.members.length V.cm, .slice V.al c.laws.length V.cl, .slice V.av c.levels.length V.cv], .agg #[.int .i64 x.act, .int .i64 x.level, .int .i64 x.window, .int .i64 x.quorum, .int .i64 x.share], .int .i64 yes, .int .i64 no] w fun e w' => e = .returned (.bool (votesOk c x yes no)) ∧ Kp w.heap.size none w w' := by
  have hA := (Blk.new w 28 #[.slice V.am c.members.length V.cm, .slice V.al c.laws.length V.cl, .slice V.av c.levels.length V.cv]).alloc (.cells #[.int .i64 x.act, .int .i64 x.level, .int .i64 x.window, .int .i64 x.quorum, .int .i64 x.share] 101)
  have hB := Blk.newAt (w.alloc (.cells #[.slice V.am c.members.length V.cm, .slice V.al c.laws.length V.cl, .slice V.av c.levels.length V.cv] 28)) 101 #[.int .i64 x.act, .int .i64 x.level, .int .i64 x.window, .int .i64 x.quorum, .int .i64 x.share] (n := w.heap.size + 1) (by simp)
  have KK := Kp.new2 w (.cells #[.slice V.am c.members.length V.cm, .slice V.al c.laws.length V.cl, .slice V.av c.levels.length V.cv] 28) (.cells #[.int .i64 x.act, .int .i64 x.level, .int .i64 x.window, .int .i64 x.quorum, .int .i64 x.share] 101)
  obtain ⟨R, hR⟩ : ∃ R, R = votesOk c x yes no := ⟨_, rfl⟩
  rw [← hR]
  replace hR := Lib.hid hR
  have hs := sumW_bd c.members hc.mem
  have hl : (c.members.length : Int) ≤ 64 := by have := hc.mlen; omega
  have hm := hc.mlen
  obtain ⟨am, cm, al, cl, av, cv⟩ := V
  have hw := hc.mem
  replace hc := Lib.hid hc
  replace hw := Lib.hid hw
  go_enter Tryz.func99, Tryz.ntmps99
  go_wp2_with fail
  obtain ⟨b1, hb1⟩ : ∃ q, q = w.heap.size := ⟨_, rfl⟩
  obtain ⟨b2, hb2⟩ : ∃ q, q = w.heap.size + 1 := ⟨_, rfl⟩
  rw [← hb2] at hB ⊢
  rw [← hb1] at hA ⊢
  generalize hw0 : (w.alloc (.cells #[.slice am c.members.length cm, .slice al c.laws.length cl, .slice av c.levels.length cv] 28)).alloc (.cells #[.int .i64 x.act, .int .i64 x.level, .int .i64 x.window, .int .i64 x.quorum, .int .i64 x.share] 101) = w0 at hA hB KK ⊢
  clear hw0 hb1 hb2
  replace h : Rd none w0 2 encMember am c.members.length c.members := (h.kpN KK).m.rdN
  go_loopw [10, 9] (fun v n wr => SumAt c.members w0 v n wr) (fun v _ _ => c.members.length - (intOf v).toNat)
  case atStart => exact ⟨0, 0, rfl, rfl, by omega, by omega, by omega, by simp, Kp.refl _ _ _⟩
  case round =>
    obtain ⟨i, s, rfl, rfl, hi, hs0, hs1, hj, K1⟩ := hrel
    replace hA := hA.kpN K1
    replace hB := hB.kpN K1
    have ca := fun i => hA.cell i
    by_cases h7 : i < c.members.length
    · obtain ⟨b, o, rfl, hb, -, hc⟩ := (h.kpN K1).at_ (by omega)
      have c1 : wr.cell? ⟨b, o + i * 2 + 1, none⟩ = some (.int .i64 c.members[i].weight) := by rw [Nat.add_assoc]; exact hc i h7 1 _ rfl
      have hi' : (i : Int) < (c.members.length : Int) := by omega
      have hwi := hw.out c.members[i] (List.getElem_mem h7)
      have hj2 : s + (c.members[i].weight + ((c.members.drop (i + 1)).map Member.weight).sum) = (c.members.map Member.weight).sum := by
        rw [List.drop_eq_getElem_cons h7, List.map_cons, List.sum_cons] at hj
        exact hj
      replace h := Lib.hid h
      generalize c.members[i] = y at c1 hwi hj2
      replace hj2 := Lib.hid hj2
      have hb2 : s + y.weight ≤ ((i + 1 : Nat) : Int) * 1099511627776 := by push_cast; omega
      have hb1 : s + y.weight ≤ 70368744177664 := by omega
      have hb0 : 0 ≤ s + y.weight := by omega
      replace hb2 := Lib.hid hb2
      have hwr : wrap64 (s + y.weight) = s + y.weight := IntWalk.wrap64_in _ (by omega)
      replace h7 := Lib.hid h7
      clear hj hc hs1 hi hs
      go_wp2
      go_roundw
      case rel => exact ⟨i + 1, s + y.weight, rfl, rfl, h7.out, hb0, hb2.out, by rw [← hj2.out]; omega, K1⟩
      case measure => have := h7.out; simp [intOf]; omega
    · have he : i = c.members.length := by omega
      have hi' : ¬ (i : Int) < (c.members.length : Int) := by omega
      rw [he, List.drop_length] at hj
      have hj : s = (c.members.map Member.weight).sum := by simpa using hj
      replace KK := KK.thenN K1 (Nat.le_refl _)
      clear h7 hi hs0 hs1 h K1
      subst he
      subst hj
      have cb := fun i => hB.cell i
      replace hR := Lib.hid (show R = (decide (x.quorum * (c.members.map Member.weight).sum ≤ (yes + no) * 1000) && decide (x.share * (c.members.map Member.weight).sum ≤ yes * 1000)) by rw [hR.out, Int.mul_comm (yes + no), Int.mul_comm yes]; rfl)
      clear hw hc
      generalize (c.members.map Member.weight).sum = S at hs hR ⊢
      have hS1 : S ≤ 70368744177664 := by omega
      have hS0 := hs.1
      have e1 := mul_wrap hx.q0 hx.q1 hS0 hS1
      have e2 := mul_wrap hx.s0 hx.s1 hS0 hS1
      have e3 : wrap64 (yes + no) = yes + no := IntWalk.wrap64_in _ (by omega)
      have e4 : wrap64 ((yes + no) * 1000) = (yes + no) * 1000 := IntWalk.wrap64_in _ (by omega)
      have e5 : wrap64 (yes * 1000) = yes * 1000 := IntWalk.wrap64_in _ (by omega)
      clear hs hm hl hS0 hS1 hx hy hn hyn
      go_wp2
      all_goals
        go_ret
        refine ⟨ret_bool ?_, KK⟩
        rw [hR.out]
        rename_i hlt
        first
          | (rw [decide_eq_true hlt, Bool.true_and]; done)
          | (rw [decide_eq_true hlt, Bool.true_and])
          | (rw [decide_eq_false (Int.not_le.2 hlt), Bool.false_and])

end Go.Proofs.YtogpgnljomchcaaGreat
