/- The sum of the weights; whether a motion has the votes; the level of a chance: the program. -/
import Derived.Test.YtogpgnljomchcaaCo1
namespace Go.Proofs.Ytogpgnljomchcaa
open Go.RowKit

theorem weight_call (W : World) (x : Member) :
    Calls Try.prog 77 #[.agg #[.int .i64 x.id, .int .i64 x.weight]] W fun e w' => e = .returned (.int .i64 x.weight) ∧ Kp W.heap.size none W w' := by
  go_enter Try.func77, Try.ntmps77
  go_wp2
  go_ret
  exact ⟨rfl, Kp.new _ _⟩
def SumAt (ms : List Member) (w : World) (v n : Value) (wr : World) : Prop := ∃ (i : Nat) (s : Int), v = .int .i64 i ∧ n = .int .i64 s ∧ i ≤ ms.length ∧ 0 ≤ s ∧ s ≤ i * 1099511627776 ∧ s + ((ms.drop i).map Member.weight).sum = (ms.map Member.weight).sum ∧ Kp w.heap.size none w wr
set_option maxHeartbeats 400000 in
theorem sum_any (A : Option Addr) (cap : Nat) (ms : List Member) (w : World) (hr : Rd none w 2 encMember A ms.length ms) (hn : ms.length ≤ 64) (hw : ∀ m ∈ ms, 0 < m.id ∧ 1 ≤ m.weight ∧ m.weight ≤ 1099511627776) :
    Calls Try.prog 76 #[.slice A ms.length cap, .func (.func 77) #[] #[]] w fun e w' => e = .returned (.int .i64 (ms.map Member.weight).sum) ∧ Kp w.heap.size none w w' := by
  obtain ⟨V, hV⟩ : ∃ V, V = (ms.map Member.weight).sum := ⟨_, rfl⟩
  rw [← hV]
  have eg : ∀ args w, (callFunc 77 args).run Try.prog w = .ok (.enter 77 args) w := enters_of Try.func77 (by kernel_rfl) rfl
  replace hV := Lib.hid hV
  replace hw := Lib.hid hw
  go_enter Try.func76, Try.ntmps76
  go_wp2_with fail
  go_loopw [10, 5] (fun v n wr => SumAt ms w v n wr) (fun v _ _ => ms.length - (intOf v).toNat)
  case atStart => exact ⟨0, 0, rfl, rfl, by omega, by omega, by omega, by simp, Kp.refl _ _ _⟩
  case round =>
    obtain ⟨i, s, rfl, rfl, hi, hs0, hs1, hj, KK⟩ := hrel
    by_cases h7 : i < ms.length
    · obtain ⟨b, o, rfl, hb, -, hc⟩ := (hr.kpN KK).at_ (by omega)
      have c0 : wr.cell? ⟨b, o + i * 2, none⟩ = some (.int .i64 ms[i].id) := hc i h7 0 _ rfl
      have c1 : wr.cell? ⟨b, o + i * 2 + 1, none⟩ = some (.int .i64 ms[i].weight) := by rw [Nat.add_assoc]; exact hc i h7 1 _ rfl
      have hi' : (i : Int) < (ms.length : Int) := by omega
      have hwi := hw.out ms[i] (List.getElem_mem h7)
      have hj2 : s + (ms[i].weight + ((ms.drop (i + 1)).map Member.weight).sum) = (ms.map Member.weight).sum := by
        rw [List.drop_eq_getElem_cons h7, List.map_cons, List.sum_cons] at hj
        exact hj
      replace hr := Lib.hid hr
      generalize ms[i] = x at c0 c1 hwi hj2
      replace hj2 := Lib.hid hj2
      have hb2 : s + x.weight ≤ ((i + 1 : Nat) : Int) * 1099511627776 := by push_cast; omega
      have hb1 : s + x.weight ≤ 70368744177664 := by omega
      have hb0 : 0 ≤ s + x.weight := by omega
      replace hb2 := Lib.hid hb2
      have hwr : wrap64 (s + x.weight) = s + x.weight := IntWalk.wrap64_in _ (by omega)
      have B1 := Blk.new wr 87 #[.int .i64 x.id, .int .i64 x.weight]
      replace KK := KK.alloc KK.size (.cells #[.int .i64 x.id, .int .i64 x.weight] 87)
      replace h7 := Lib.hid h7
      clear hj hc hs1 hi
      go_wp2_with fail
      refine (weight_call _ x).mono ?_
      rintro e w2 ⟨rfl, k2⟩
      go_wp2
      go_roundw
      case rel => exact ⟨i + 1, s + x.weight, rfl, rfl, h7.out, hb0, hb2.out, by rw [← hj2.out]; omega, KK.thenN k2 (Nat.le_refl _)⟩
      case measure => have := h7.out; simp [intOf]; omega
    · have he : i = ms.length := by omega
      have hi' : ¬ (i : Int) < (ms.length : Int) := by omega
      rw [he, List.drop_length] at hj
      have hj := Lib.hid (show s = (ms.map Member.weight).sum by simpa using hj)
      clear h7 hi
      subst he
      go_wp2
      go_ret
      exact ⟨ret_int (hj.out.trans hV.out.symm), KK⟩

structure LawIn (x : LawC) : Prop where
  q0 : 0 ≤ x.quorum
  q1 : x.quorum ≤ 1000
  s0 : 0 ≤ x.share
  s1 : x.share ≤ 1000
theorem lawIn_of {c : Council} (h : CouncilOk c) (act : Int) : LawIn (lawD c act) := by
  have := lawD_ok h act
  exact ⟨this.2.2.2.2.1, this.2.2.2.2.2.1, this.2.2.2.2.2.2.1, this.2.2.2.2.2.2.2⟩
theorem mul_wrap {q S : Int} (h0 : 0 ≤ q) (h1 : q ≤ 1000) (hs : 0 ≤ S) (hs1 : S ≤ 70368744177664) : wrap64 (q * S) = q * S := by
  have a := Int.mul_nonneg h0 hs
  have b : q * S ≤ 1000 * S := Int.mul_le_mul_of_nonneg_right h1 hs
  generalize q * S = X at a b ⊢
  exact IntWalk.wrap64_in _ (by omega)
set_option maxHeartbeats 400000 in
theorem council_votes_any (x : LawC) (yes no : Int) (B : Nat) (V : CV) (c : Council) (w : World) (h : CAt B w V c) (hc : CouncilOk c) (hx : LawIn x) (hy : 0 ≤ yes) (hn : 0 ≤ no) (hyn : yes + no ≤ 2251799813685248) :
    Calls Try.prog 57 #[.agg #[.slice V.am c.members.length V.cm, .slice V.al c.laws.length V.cl, .slice V.av c.levels.length V.cv], .agg #[.int .i64 x.act, .int .i64 x.level, .int .i64 x.window, .int .i64 x.quorum, .int .i64 x.share], .int .i64 yes, .int .i64 no] w fun e w' => e = .returned (.bool (votesOk c x yes no)) ∧ Kp w.heap.size none w w' := by
  have hA := (Blk.new w 26 #[.slice V.am c.members.length V.cm, .slice V.al c.laws.length V.cl, .slice V.av c.levels.length V.cv]).alloc (.cells #[.int .i64 x.act, .int .i64 x.level, .int .i64 x.window, .int .i64 x.quorum, .int .i64 x.share] 61)
  have hB := Blk.newAt (w.alloc (.cells #[.slice V.am c.members.length V.cm, .slice V.al c.laws.length V.cl, .slice V.av c.levels.length V.cv] 26)) 61 #[.int .i64 x.act, .int .i64 x.level, .int .i64 x.window, .int .i64 x.quorum, .int .i64 x.share] (n := w.heap.size + 1) (by simp)
  have KK := Kp.new2 w (.cells #[.slice V.am c.members.length V.cm, .slice V.al c.laws.length V.cl, .slice V.av c.levels.length V.cv] 26) (.cells #[.int .i64 x.act, .int .i64 x.level, .int .i64 x.window, .int .i64 x.quorum, .int .i64 x.share] 61)
  obtain ⟨R, hR⟩ : ∃ R, R = votesOk c x yes no := ⟨_, rfl⟩
  rw [← hR]
  replace hR := Lib.hid hR
  have hs := sumW_bd c.members hc.mem
  have hl : (c.members.length : Int) ≤ 64 := by have := hc.mlen; omega
  have hcs := sum_any V.am V.cm c.members
  have hm := hc.mlen
  have hw := hc.mem
  replace hc := Lib.hid hc
  replace hw := Lib.hid hw
  go_enter Try.func57, Try.ntmps57
  go_wp2_with fail
  generalize hw0 : (w.alloc (.cells #[.slice V.am c.members.length V.cm, .slice V.al c.laws.length V.cl, .slice V.av c.levels.length V.cv] 26)).alloc (.cells #[.int .i64 x.act, .int .i64 x.level, .int .i64 x.window, .int .i64 x.quorum, .int .i64 x.share] 61) = w0 at hA hB KK ⊢
  clear hw0
  replace h := h.kpN KK
  refine (hcs w0 h.m.rdN hm hw.out).mono ?_
  rintro e w1 ⟨rfl, k1⟩
  replace hA := hA.kpN k1
  replace hB := hB.kpN k1
  replace KK := KK.thenN k1 (Nat.le_refl _)
  have cb := fun i => hB.cell i
  replace hR := Lib.hid (show R = (decide (x.quorum * (c.members.map Member.weight).sum ≤ 1000 * (yes + no)) && decide (x.share * (c.members.map Member.weight).sum ≤ 1000 * yes)) from hR.out)
  clear hcs k1 h hw hc
  generalize (c.members.map Member.weight).sum = S at hs hR ⊢
  have hS1 : S ≤ 70368744177664 := by omega
  have hS0 := hs.1
  have e1 := mul_wrap hx.q0 hx.q1 hS0 hS1
  have e2 := mul_wrap hx.s0 hx.s1 hS0 hS1
  have e3 : wrap64 (yes + no) = yes + no := IntWalk.wrap64_in _ (by omega)
  have e4 : wrap64 (1000 * (yes + no)) = 1000 * (yes + no) := IntWalk.wrap64_in _ (by omega)
  have e5 : wrap64 (1000 * yes) = 1000 * yes := IntWalk.wrap64_in _ (by omega)
  clear hs hm hl hS0 hS1 hx hy hn hyn
  go_wp2
  all_goals
    go_ret
    refine ⟨ret_bool ?_, KK⟩
    rw [hR.out]
    rename_i hlt
    first
      | (rw [decide_eq_true hlt, Bool.true_and]; done)
      | (rw [decide_eq_true hlt, Bool.true_and])
      | (rw [decide_eq_false (Int.not_le.2 hlt), Bool.false_and])
def LevAt (V : Nat) (ls : List Int) (x : Chance) (w : World) (v n : Value) (wr : World) : Prop := ∃ (i k : Nat), v = .int .i64 i ∧ n = .int .i64 k ∧ i ≤ ls.length ∧ k ≤ i ∧ k + ((ls.drop i).filter (reaches x)).length = V ∧ Kp w.heap.size none w wr
theorem chance_in {x : Chance} (h : chanceErr x = 0) : 0 ≤ x.most ∧ x.most ≤ 1125899906842624 ∧ 1 ≤ x.all ∧ x.all ≤ 1125899906842624 := by
  unfold chanceErr at h
  split at h
  · cases h
  · omega
theorem reach_cmp {m l a H L H' L' : Nat} (x : Chance) (hm : x.most = m) (ha : x.all = a) (h : Pr m 1000000000 H L) (k : Pr l a H' L') : reaches x l = decide (0 ≤ cmpHL H L H' L') := by
  unfold reaches
  rw [hm, ha]
  refine decide_eq_decide.2 ?_
  rw [cmp_ge h k]
  omega
set_option maxHeartbeats 400000 in
theorem council_level_any (x : Chance) (B : Nat) (V : CV) (c : Council) (w : World) (h : CAt B w V c) (hv : c.levels.length ≤ 8) (hl : ∀ n ∈ c.levels, 0 < n ∧ n ≤ 1000000000) (hx : chanceErr x = 0) :
    Calls Try.prog 51 #[.agg #[.slice V.am c.members.length V.cm, .slice V.al c.laws.length V.cl, .slice V.av c.levels.length V.cv], .agg #[.int .i64 x.least, .int .i64 x.most, .int .i64 x.all]] w fun e w' => e = .returned (.int .i64 (levelOf c x)) ∧ Kp w.heap.size none w w' := by
  obtain ⟨am, cm, al, cl, av, cv⟩ := V
  have hA := (Blk.new w 26 #[.slice am c.members.length cm, .slice al c.laws.length cl, .slice av c.levels.length cv]).alloc (.cells #[.int .i64 x.least, .int .i64 x.most, .int .i64 x.all] 29)
  have hB := Blk.newAt (w.alloc (.cells #[.slice am c.members.length cm, .slice al c.laws.length cl, .slice av c.levels.length cv] 26)) 29 #[.int .i64 x.least, .int .i64 x.most, .int .i64 x.all] (n := w.heap.size + 1) (by simp)
  have KK := Kp.new2 w (.cells #[.slice am c.members.length cm, .slice al c.laws.length cl, .slice av c.levels.length cv] 26) (.cells #[.int .i64 x.least, .int .i64 x.most, .int .i64 x.all] 29)
  have hxi := chance_in hx
  obtain ⟨m, hm⟩ := Int.eq_ofNat_of_zero_le hxi.1
  obtain ⟨a, ha⟩ := Int.eq_ofNat_of_zero_le (show 0 ≤ x.all by omega)
  have haL : a ≤ 1125899906842624 := by omega
  obtain ⟨H, L, hP⟩ := pr_of m 1000000000 (by omega) (by decide)
  obtain ⟨R, hR⟩ : ∃ R, R = levelOf c x := ⟨_, rfl⟩
  rw [← hR]
  replace hR := Lib.hid (show (c.levels.filter (reaches x)).length = R from hR.symm)
  replace hx := Lib.hid hx
  replace hl := Lib.hid hl
  replace hP := Lib.hid hP
  replace hm := Lib.hid hm
  replace ha := Lib.hid ha
  go_enter Try.func51, Try.ntmps51
  go_wp2_with fail
  generalize hw0 : (w.alloc (.cells #[.slice am c.members.length cm, .slice al c.laws.length cl, .slice av c.levels.length cv] 26)).alloc (.cells #[.int .i64 x.least, .int .i64 x.most, .int .i64 x.all] 29) = w0 at hA hB KK ⊢
  clear hw0
  replace h : Rd none w0 1 encI av c.levels.length c.levels := (h.kpN KK).v.rdN
  go_loopw [11, 5] (fun v n wr => LevAt R c.levels x w0 v n wr) (fun v _ _ => c.levels.length - (intOf v).toNat)
  case atStart => exact ⟨0, 0, rfl, rfl, by omega, by omega, by simpa using hR.out, Kp.refl _ _ _⟩
  case round =>
    obtain ⟨i, k, rfl, rfl, hi, hk, hj, K1⟩ := hrel
    replace hB := hB.kpN K1
    have cb := fun i => hB.cell i
    by_cases h7 : i < c.levels.length
    · obtain ⟨b, o, rfl, hb, -, hcc⟩ := (h.kpN K1).at_ (by omega)
      have c0 := Rd.cell1 (f := fun y => .int .i64 y) (fun _ => rfl) hcc i h7
      have hi' : (i : Int) < (c.levels.length : Int) := by omega
      have hln := hl.out c.levels[i] (List.getElem_mem h7)
      rw [List.drop_eq_getElem_cons h7, List.filter_cons] at hj
      replace h := Lib.hid h
      generalize c.levels[i] = y at c0 hln hj
      obtain ⟨l, rfl⟩ := Int.eq_ofNat_of_zero_le (show 0 ≤ y by omega)
      obtain ⟨H', L', hQ⟩ := pr_of l a (by omega) (by omega)
      have hrc := reach_cmp x hm.out ha.out hP.out hQ
      replace hQ := Lib.hid hQ
      rw [hrc] at hj
      clear hrc hcc
      replace h7 := Lib.hid h7
      have hk8 : (k : Int) ≤ 8 := by omega
      have K2 := fun w2 (q : Kp wr.heap.size none wr w2) => K1.thenN q (Nat.le_refl _)
      clear hi hln hxi
      have cr := span_Cross_any m l a 1000000000 H L H' L' hP hQ
      rw [← hm.out, ← ha.out] at cr
      go_wp2_with fail
      refine (cr _).mono ?_
      rintro e w2 ⟨rfl, k2⟩
      replace K2 := K2 _ k2
      clear k2
      generalize cmpHL H L H' L' = r at hj ⊢
      by_cases hr : 0 ≤ r
      · rw [decide_eq_true hr, if_pos rfl, List.length_cons] at hj
        replace hj := Lib.hid hj
        go_wp2
        go_roundw
        case rel => exact ⟨i + 1, k + 1, rfl, rfl, h7.out, by omega, by have := hj.out; omega, K2⟩
        case measure => have := h7.out; simp [intOf]; omega
      · rw [decide_eq_false hr, if_neg (by simp)] at hj
        replace hj := Lib.hid hj
        go_wp2
        go_roundw
        case rel => exact ⟨i + 1, k, rfl, rfl, h7.out, by omega, hj.out, K2⟩
        case measure => have := h7.out; simp [intOf]; omega
    · have he : i = c.levels.length := by omega
      have hi' : ¬ (i : Int) < (c.levels.length : Int) := by omega
      rw [he, List.drop_length] at hj
      have hj2 := Lib.hid (show k = R by simpa using hj)
      replace KK := KK.thenN K1 (Nat.le_refl _)
      clear h7 hi hj
      subst he
      go_wp2
      exact bodyPost_ret (v := .int .i64 R) (by simp [results, Try.results51, go_sem, hj2.out]) rfl ⟨rfl, KK⟩
end Go.Proofs.Ytogpgnljomchcaa
