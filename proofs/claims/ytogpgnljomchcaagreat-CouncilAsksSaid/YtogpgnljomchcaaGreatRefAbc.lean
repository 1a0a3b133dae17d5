/- Which councils are valid; levels; whether weights suffice: the reference. Levels, laws, weights, votes: the reference. Levels and votes asked: the reference. -/
import Derived.Test.YtogpgnljomchcaaGreatCoAll
import Derived.Deep.DeepCutAuto
namespace Go.Proofs.YtogpgnljomchcaaGreat
open Go.RowKit

set_option maxHeartbeats 1000000 in
theorem ref_checkLaw_any (x : LawC) (last : Int) (w : World) :
    Calls Tryz.prog 66 #[.agg #[.int .i64 x.act, .int .i64 x.level, .int .i64 x.window, .int .i64 x.quorum, .int .i64 x.share], .int .i64 last] w fun e w' => e = .returned (.int .i64 (lawErr x last)) ∧ Kp w.heap.size none w w' := by
  have hb := Blk.new w 101 #[.int .i64 x.act, .int .i64 x.level, .int .i64 x.window, .int .i64 x.quorum, .int .i64 x.share]
  have KK := Kp.new w (.cells #[.int .i64 x.act, .int .i64 x.level, .int .i64 x.window, .int .i64 x.quorum, .int .i64 x.share] 101)
  have fin : ∀ (e : Ending) (w' : World) (n : Int), e = .returned (.int .i64 n) → n = lawErr x last → Kp w.heap.size none w w' → e = .returned (.int .i64 (lawErr x last)) ∧ Kp w.heap.size none w w' := fun e w' n h1 h2 h3 => ⟨h2 ▸ h1, h3⟩
  replace fin := Lib.hid fin
  go_enter Tryz.func66, Tryz.ntmps66
  by_cases h1 : x.act ≤ last
  · go_wp2
    go_ret
    exact fin.out _ _ _ rfl (by unfold lawErr; rw [if_pos h1]) KK
  have bad : lawBad x → 2 = lawErr x last := fun h => by unfold lawErr; rw [if_neg h1, if_pos h]
  have good : ¬ lawBad x → 0 = lawErr x last := fun h => by unfold lawErr; rw [if_neg h1, if_neg h]
  unfold lawBad at bad good
  replace bad := Lib.hid bad
  replace good := Lib.hid good
  by_cases hl0 : x.level < 0
  · have hz := Lib.hid (bad.out (.inl hl0))
    go_wp2
    go_ret
    exact fin.out _ _ _ rfl hz.out KK
  by_cases hl8 : 8 < x.level
  · have hz := Lib.hid (bad.out (.inr (.inl hl8)))
    go_wp2
    go_ret
    exact fin.out _ _ _ rfl hz.out KK
  go_upto_region 1 with (fail)
  generalize w.alloc (.cells #[.int .i64 x.act, .int .i64 x.level, .int .i64 x.window, .int .i64 x.quorum, .int .i64 x.share] 101) = w1 at hb KK ⊢
  have cb := fun i => hb.cell i
  go_wp2_with fail
  refine (bolideref09_between_any _ _ _ _).mono ?_
  rintro e w2 ⟨rfl, k2⟩
  replace hb := hb.kpN k2
  have cb := fun i => hb.cell i
  replace KK := KK.thenN k2 (Nat.le_refl _)
  clear k2
  cases hb1 : bt x.window 0 1073741824
  · have hz := Lib.hid (bad.out (by have := bt_false hb1; omega))
    go_wp2
    go_ret
    exact fin.out _ _ _ rfl hz.out KK
  replace hb1 := Lib.hid (bt_true hb1)
  go_wp2_with fail
  refine (bolideref09_between_any _ _ _ _).mono ?_
  rintro e w2 ⟨rfl, k2⟩
  replace hb := hb.kpN k2
  have cb := fun i => hb.cell i
  replace KK := KK.thenN k2 (Nat.le_refl _)
  clear k2
  cases hb2 : bt x.quorum 0 1000
  · have hz := Lib.hid (bad.out (by have := bt_false hb2; omega))
    go_wp2
    go_ret
    exact fin.out _ _ _ rfl hz.out KK
  replace hb2 := Lib.hid (bt_true hb2)
  go_wp2_with fail
  refine (bolideref09_between_any _ _ _ _).mono ?_
  rintro e w2 ⟨rfl, k2⟩
  replace hb := hb.kpN k2
  have cb := fun i => hb.cell i
  replace KK := KK.thenN k2 (Nat.le_refl _)
  clear k2
  cases hb3 : bt x.share 0 1000
  · have hz := Lib.hid (bad.out (by have := bt_false hb3; omega))
    go_wp2
    go_ret
    exact fin.out _ _ _ rfl hz.out KK
  replace hb3 := Lib.hid (bt_true hb3)
  have hg := Lib.hid (good.out (by have := hb1.out; have := hb2.out; have := hb3.out; omega))
  go_wp2
  go_ret
  exact fin.out _ _ _ rfl hg.out KK
set_option maxHeartbeats 2000000 in
theorem ref_Check_any (B : Nat) (V : CV) (c : Council) (w : World) (h : CAt B w V c) :
    Calls Tryz.prog 49 #[.agg #[.slice V.am c.members.length V.cm, .slice V.al c.laws.length V.cl, .slice V.av c.levels.length V.cv]] w fun e w' => e = .returned (.int .i64 (checkC c)) ∧ Kp w.heap.size none w w' := by
  obtain ⟨am, cm, al, cl, av, cv⟩ := V
  have KK := Kp.new w (.cells #[.slice am c.members.length cm, .slice al c.laws.length cl, .slice av c.levels.length cv] 28)
  have hA := Blk.new w 28 #[.slice am c.members.length cm, .slice al c.laws.length cl, .slice av c.levels.length cv]
  have fin : ∀ (e : Ending) (w' : World) (n : Int), e = .returned (.int .i64 n) → n = checkC c → Kp w.heap.size none w w' → e = .returned (.int .i64 (checkC c)) ∧ Kp w.heap.size none w w' := fun e w' n h1 h2 h3 => ⟨h2 ▸ h1, h3⟩
  replace fin := Lib.hid fin
  have hms := h.ms
  have hls := h.ls
  have hvs := h.vs
  have hM : Rd none _ 2 encMember am c.members.length c.members := (h.kpN KK).m.rdN
  have hL : Rd none _ 5 encLaw al c.laws.length c.laws := (h.kpN KK).l.rdN
  have hV : Rd none _ 1 encI av c.levels.length c.levels := (h.kpN KK).v.rdN
  clear h
  go_enter Tryz.func49, Tryz.ntmps49
  by_cases h0 : c.members.length = 0
  · have h0' : (c.members.length : Int) = 0 := by omega
    go_wp2
    go_ret
    exact fin.out _ _ _ rfl (by unfold checkC; rw [if_pos h0]) (Kp.new _ _)
  have h0' : ¬ (c.members.length : Int) = 0 := by omega
  by_cases h1 : 64 < c.members.length
  · have h1' : 64 < (c.members.length : Int) := by omega
    go_wp2
    go_ret
    exact fin.out _ _ _ rfl (by unfold checkC; rw [if_neg h0, if_pos h1]) KK
  have h1' : ¬ 64 < (c.members.length : Int) := by omega
  go_wp2_with fail
  generalize w.alloc (.cells #[.slice am c.members.length cm, .slice al c.laws.length cl, .slice av c.levels.length cv] 28) = w0 at hA hM hL hV KK ⊢
  obtain ⟨V1, hV1⟩ : ∃ V1, V1 = chkMembers 0 c.members := ⟨_, rfl⟩
  have fm := checkC_m h0 h1
  have fl := checkC_l h0 h1
  have fv := checkC_v h0 h1
  rw [← hV1] at fm fl fv
  replace hV1 := Lib.hid hV1
  replace fm := Lib.hid fm
  replace fl := Lib.hid fl
  replace fv := Lib.hid fv
  replace h0 := Lib.hid h0
  replace h1 := Lib.hid h1
  go_loopw [4, 3] (fun v n wr => CkAt chkMembers V1 c.members w0 v n wr) (fun v _ _ => c.members.length - (intOf v).toNat)
  case atStart => exact ⟨0, 0, rfl, rfl, by omega, by simpa using hV1.out.symm, Kp.refl _ _ _⟩
  case round =>
    obtain ⟨i, last, rfl, rfl, hi, hj, K1⟩ := hrel
    have hA2 := hA.kpN K1
    have ca := fun i => hA2.cell i
    by_cases h7 : i < c.members.length
    · obtain ⟨b, o, rfl, hb, -, hcc⟩ := (hM.kpN K1).at_ (by omega)
      have hcell : ∀ W, Kp wr.heap.size none wr W → W.cell? ⟨b, o + i * 2, none⟩ = some (.int .i64 c.members[i].id) ∧ W.cell? ⟨b, o + i * 2 + 1, none⟩ = some (.int .i64 c.members[i].weight) := fun W k =>
        ⟨(k.cell b _ hb (by simp)).trans (hcc i h7 0 _ rfl), (k.cell b _ hb (by simp)).trans (by rw [Nat.add_assoc]; exact hcc i h7 1 _ rfl)⟩
      have hi' : (i : Int) < (c.members.length : Int) := by omega
      rw [chkM_drop last c.members i h7] at hj
      clear hcc hM hL hV
      generalize c.members[i] = x at hcell hj
      obtain ⟨c0, c1⟩ := hcell wr (Kp.refl _ _ _)
      replace hcell := Lib.hid hcell
      have K2 := KK.thenN K1 (Nat.le_refl _)
      clear hi
      replace h7 := Lib.hid h7
      by_cases hq : x.id ≤ last
      · rw [if_pos hq] at hj
        have hj := Lib.hid (show V1 = 11 from hj.symm)
        go_wp2
        go_ret
        exact fin.out _ _ _ rfl (hj.out ▸ (fm.out (by rw [hj.out]; decide)).symm) K2
      · rw [if_neg hq] at hj
        replace hj := Lib.hid hj
        go_wp2_with fail
        refine (bolideref09_between_any _ _ _ _).mono ?_
        rintro e w2 ⟨rfl, k2⟩
        replace hA2 := hA2.kpN k2
        replace K2 := K2.thenN k2 (Nat.le_refl _)
        replace K1 := K1.thenN k2 (Nat.le_refl _)
        clear ca c0 c1
        have ca := fun i => hA2.cell i
        obtain ⟨c0, c1⟩ := hcell.out w2 k2
        clear k2 hcell
        cases hbt : bt x.weight 1 1099511627776
        · have hj := Lib.hid (show V1 = 2 by have := hj.out; rw [if_pos (bt_false hbt)] at this; exact this.symm)
          go_wp2
          go_ret
          exact fin.out _ _ _ rfl (hj.out ▸ (fm.out (by rw [hj.out]; decide)).symm) K2
        · have hj := Lib.hid (show chkMembers x.id (c.members.drop (i + 1)) = V1 by have := hj.out; rw [if_neg (by have := bt_true hbt; omega)] at this; exact this)
          go_wp2
          go_roundw
          case rel => exact ⟨i + 1, x.id, rfl, rfl, h7.out, hj.out, K1⟩
          case measure => have := h7.out; simp [intOf]; omega
    · have he : i = c.members.length := by omega
      have hi' : ¬ (i : Int) < (c.members.length : Int) := by omega
      rw [he, List.drop_length] at hj
      have hj2 := Lib.hid (show V1 = 0 from hj.symm)
      replace hL := hL.kpN K1
      replace hV := hV.kpN K1
      replace KK := KK.thenN K1 (Nat.le_refl _)
      have hm0 := Lib.hid (show chkMembers 0 c.members = 0 by rw [← hV1.out]; exact hj2.out)
      clear h7 hi hj hM fm hV1 K1 hA
      have hA := hA2
      clear hA2
      subst he
      by_cases h16 : 16 < c.laws.length
      · have h16' : 16 < (c.laws.length : Int) := by omega
        have hz := Lib.hid (show 8 = checkC c by unfold checkC; rw [if_neg h0.out, if_neg h1.out, if_neg (by simpa using hm0.out), if_pos h16])
        go_wp2
        go_ret
        exact fin.out _ _ _ rfl hz.out KK
      have h16' : ¬ 16 < (c.laws.length : Int) := by omega
      go_wp2_with fail
      have fl := Lib.hid (fl.out hj2.out h16)
      have fv := Lib.hid (fv.out hj2.out h16)
      obtain ⟨V2, hV2⟩ : ∃ V2, V2 = chkLaws 0 c.laws := ⟨_, rfl⟩
      rw [← hV2] at fl fv
      replace hV2 := Lib.hid hV2
      replace h16 := Lib.hid h16
      clear hj2 ca
      rename World => w1
      go_loopw [5, 3] (fun v n w2 => CkAt chkLaws V2 c.laws w1 v n w2) (fun v _ _ => c.laws.length - (intOf v).toNat)
      case atStart => exact ⟨0, 0, rfl, rfl, by omega, by simpa using hV2.out.symm, Kp.refl _ _ _⟩
      case round =>
        obtain ⟨i, last, rfl, rfl, hi, hj, K1⟩ := hrel
        have hA2 := hA.kpN K1
        have ca := fun i => hA2.cell i
        by_cases h7 : i < c.laws.length
        · obtain ⟨b, o, rfl, hb, -, hcc⟩ := (hL.kpN K1).at_ (by omega)
          have c0 : wr.cell? ⟨b, o + i * 5 + 0, none⟩ = some (.int .i64 c.laws[i].act) := by rw [Nat.add_assoc]; exact hcc i h7 0 _ rfl
          have c1 : wr.cell? ⟨b, o + i * 5 + 1, none⟩ = some (.int .i64 c.laws[i].level) := by rw [Nat.add_assoc]; exact hcc i h7 1 _ rfl
          have c2 : wr.cell? ⟨b, o + i * 5 + 2, none⟩ = some (.int .i64 c.laws[i].window) := by rw [Nat.add_assoc]; exact hcc i h7 2 _ rfl
          have c3 : wr.cell? ⟨b, o + i * 5 + 3, none⟩ = some (.int .i64 c.laws[i].quorum) := by rw [Nat.add_assoc]; exact hcc i h7 3 _ rfl
          have c4 : wr.cell? ⟨b, o + i * 5 + 4, none⟩ = some (.int .i64 c.laws[i].share) := by rw [Nat.add_assoc]; exact hcc i h7 4 _ rfl
          simp only [Nat.add_zero] at c0
          have hi' : (i : Int) < (c.laws.length : Int) := by omega
          rw [chkL_drop last c.laws i h7] at hj
          clear hcc hL hV
          generalize c.laws[i] = x at c0 c1 c2 c3 c4 hj
          have d0 : ∀ W, Kp wr.heap.size none wr W → W.cell? ⟨b, o + i * 5, none⟩ = some (.int .i64 x.act) := fun W k => (k.cell b _ hb (by simp)).trans c0
          replace d0 := Lib.hid d0
          have K2 := KK.thenN K1 (Nat.le_refl _)
          clear hi
          replace h7 := Lib.hid h7
          have kz : lawErr x last ≠ 0 → lawErr x last = V2 := fun hz => by rw [if_neg hz] at hj; exact hj
          have bad : lawErr x last ≠ 0 → lawErr x last = checkC c := fun hz => by
            have := kz hz
            rw [this] at hz ⊢
            exact (fl.out hz).symm
          have good : lawErr x last = 0 → chkLaws x.act (c.laws.drop (i + 1)) = V2 := fun hz => by rw [if_pos hz] at hj; exact hj
          replace bad := Lib.hid bad
          replace good := Lib.hid good
          clear hj kz
          go_wp2_with fail
          refine (ref_checkLaw_any x last _).mono ?_
          rintro e w2 ⟨rfl, k2⟩
          replace hA2 := hA2.kpN k2
          replace K2 := K2.thenN k2 (Nat.le_refl _)
          replace K1 := K1.thenN k2 (Nat.le_refl _)
          clear ca c0 c1 c2 c3 c4
          have ca := fun i => hA2.cell i
          have c0 := d0.out w2 k2
          clear k2 d0
          by_cases hz0 : lawErr x last = 0
          · rw [hz0]
            have hg := Lib.hid (good.out hz0)
            clear bad good hz0
            go_wp2
            go_roundw
            case rel => exact ⟨i + 1, x.act, rfl, rfl, h7.out, hg.out, K1⟩
            case measure => have := h7.out; simp [intOf]; omega
          · have hg := Lib.hid (bad.out hz0)
            clear bad good
            generalize lawErr x last = E at hz0 hg ⊢
            go_wp2
            go_ret
            exact fin.out _ _ _ rfl hg.out K2
        · have he : i = c.laws.length := by omega
          have hi' : ¬ (i : Int) < (c.laws.length : Int) := by omega
          rw [he, List.drop_length] at hj
          have hj2 := Lib.hid (show V2 = 0 from hj.symm)
          replace hV := hV.kpN K1
          replace KK := KK.thenN K1 (Nat.le_refl _)
          have hl0 := Lib.hid (show chkLaws 0 c.laws = 0 by rw [← hV2.out]; exact hj2.out)
          clear h7 hi hj hL fl hV2 K1 hA
          have hA := hA2
          clear hA2
          subst he
          by_cases h8 : 8 < c.levels.length
          · have h8' : 8 < (c.levels.length : Int) := by omega
            have hz := Lib.hid (show 8 = checkC c by unfold checkC; rw [if_neg h0.out, if_neg h1.out, if_neg (by simpa using hm0.out), if_neg h16.out, if_neg (by simpa using hl0.out), if_pos h8])
            go_wp2
            go_ret
            exact fin.out _ _ _ rfl hz.out KK
          have h8' : ¬ 8 < (c.levels.length : Int) := by omega
          go_wp2_with fail
          have fv := Lib.hid (fv.out hj2.out h8)
          clear ca
          rename World => w1
          go_loopw [8, 7] (fun v n w2 => CkAt chkLevels (checkC c) c.levels w1 v n w2) (fun v _ _ => c.levels.length - (intOf v).toNat)
          case atStart => exact ⟨0, 0, rfl, rfl, by omega, by simpa using fv.out.symm, Kp.refl _ _ _⟩
          case round =>
            obtain ⟨i, last, rfl, rfl, hi, hj, K1⟩ := hrel
            have hA2 := hA.kpN K1
            have ca := fun i => hA2.cell i
            by_cases h7 : i < c.levels.length
            · obtain ⟨b, o, rfl, hb, -, hcc⟩ := (hV.kpN K1).at_ (by omega)
              have c0 := Rd.cell1 (f := fun y => .int .i64 y) (fun _ => rfl) hcc i h7
              have hi' : (i : Int) < (c.levels.length : Int) := by omega
              rw [chkV_drop last c.levels i h7] at hj
              clear hcc hV
              generalize c.levels[i] = x at c0 hj
              have K2 := KK.thenN K1 (Nat.le_refl _)
              clear hi
              replace h7 := Lib.hid h7
              by_cases hq : x ≤ last
              · rw [if_pos hq] at hj
                replace hj := Lib.hid hj
                go_wp2
                go_ret
                exact fin.out _ _ _ rfl hj.out K2
              · rw [if_neg hq] at hj
                by_cases hq2 : 1000000000 < x
                · rw [if_pos hq2] at hj
                  replace hj := Lib.hid hj
                  go_wp2
                  go_ret
                  exact fin.out _ _ _ rfl hj.out K2
                · rw [if_neg hq2] at hj
                  replace hj := Lib.hid hj
                  go_wp2
                  go_roundw
                  case rel => exact ⟨i + 1, x, rfl, rfl, h7.out, hj.out, K1⟩
                  case measure => have := h7.out; simp [intOf]; omega
            · have he : i = c.levels.length := by omega
              have hi' : ¬ (i : Int) < (c.levels.length : Int) := by omega
              rw [he, List.drop_length] at hj
              replace hj := Lib.hid hj
              replace KK := KK.thenN K1 (Nat.le_refl _)
              clear h7 hi hV fv K1
              subst he
              go_wp2
              go_ret
              exact fin.out _ _ _ rfl hj.out KK
set_option maxHeartbeats 400000 in
theorem ref_CheckChance_any (x : Chance) (w : World) :
    Calls Tryz.prog 92 #[.agg #[.int .i64 x.least, .int .i64 x.most, .int .i64 x.all]] w fun e w' => e = .returned (.int .i64 (chanceErr x)) ∧ Kp w.heap.size none w w' := by
  have hb := Blk.new w 34 #[.int .i64 x.least, .int .i64 x.most, .int .i64 x.all]
  have KK := Kp.new w (.cells #[.int .i64 x.least, .int .i64 x.most, .int .i64 x.all] 34)
  have fin : ∀ (e : Ending) (w' : World) (n : Int), e = .returned (.int .i64 n) → n = chanceErr x → Kp w.heap.size none w w' → e = .returned (.int .i64 (chanceErr x)) ∧ Kp w.heap.size none w w' := fun e w' n h1 h2 h3 => ⟨h2 ▸ h1, h3⟩
  replace fin := Lib.hid fin
  go_enter Tryz.func92, Tryz.ntmps92
  rcases (show (x.least < 0 ∨ x.most < x.least ∨ x.all < x.most) ∨ (¬ x.least < 0 ∧ ¬ x.most < x.least ∧ ¬ x.all < x.most) by omega) with hh | ⟨h1, h2, h3⟩
  · rcases hh with h1 | h1 | h1
    · go_wp2
      go_ret
      refine fin.out _ _ _ rfl ?_ (Kp.new _ _)
      unfold chanceErr
      rw [if_pos (by omega)]
    · by_cases h2 : x.least < 0
      · go_wp2
        go_ret
        refine fin.out _ _ _ rfl ?_ (Kp.new _ _)
        unfold chanceErr
        rw [if_pos (by omega)]
      · go_wp2
        go_ret
        refine fin.out _ _ _ rfl ?_ (Kp.new _ _)
        unfold chanceErr
        rw [if_pos (by omega)]
    · by_cases h2 : x.least < 0
      · go_wp2
        go_ret
        refine fin.out _ _ _ rfl ?_ (Kp.new _ _)
        unfold chanceErr
        rw [if_pos (by omega)]
      · by_cases h3 : x.most < x.least
        · go_wp2
          go_ret
          refine fin.out _ _ _ rfl ?_ (Kp.new _ _)
          unfold chanceErr
          rw [if_pos (by omega)]
        · go_wp2
          go_ret
          refine fin.out _ _ _ rfl ?_ (Kp.new _ _)
          unfold chanceErr
          rw [if_pos (by omega)]
  · go_wp2_with fail
    refine (bolideref09_between_any _ _ _ _).mono ?_
    rintro e w1 ⟨rfl, k1⟩
    replace KK := KK.thenN k1 (Nat.le_refl _)
    cases hb1 : bt x.all 1 1125899906842624
    · have hb2 := Lib.hid hb1
      clear hb1
      go_wp2
      go_ret
      refine fin.out _ _ _ rfl ?_ KK
      have := hb2.out
      simp only [bt, Bool.and_eq_false_iff, decide_eq_false_iff_not] at this
      unfold chanceErr
      rw [if_pos (by omega)]
    · have hb2 := Lib.hid hb1
      clear hb1
      go_wp2
      go_ret
      refine fin.out _ _ _ rfl ?_ KK
      have := hb2.out
      simp only [bt, Bool.and_eq_true, decide_eq_true_eq] at this
      unfold chanceErr
      rw [if_neg (by omega)]
end Go.Proofs.YtogpgnljomchcaaGreat
namespace Go.Proofs.YtogpgnljomchcaaGreat
open Go.RowKit

set_option maxHeartbeats 1000000 in
theorem ref_level_any (x : Chance) (B : Nat) (V : CV) (c : Council) (w : World) (h : CAt B w V c) (hv : c.levels.length ≤ 8) (hl : ∀ n ∈ c.levels, 0 < n ∧ n ≤ 1000000000) (hx : chanceErr x = 0) :
    Calls Tryz.prog 93 #[.agg #[.slice V.am c.members.length V.cm, .slice V.al c.laws.length V.cl, .slice V.av c.levels.length V.cv], .agg #[.int .i64 x.least, .int .i64 x.most, .int .i64 x.all]] w fun e w' => e = .returned (.int .i64 (levelOf c x)) ∧ Kp w.heap.size none w w' := by
  obtain ⟨am, cm, al, cl, av, cv⟩ := V
  have hA := (Blk.new w 28 #[.slice am c.members.length cm, .slice al c.laws.length cl, .slice av c.levels.length cv]).alloc (.cells #[.int .i64 x.least, .int .i64 x.most, .int .i64 x.all] 34)
  have hB := Blk.newAt (w.alloc (.cells #[.slice am c.members.length cm, .slice al c.laws.length cl, .slice av c.levels.length cv] 28)) 34 #[.int .i64 x.least, .int .i64 x.most, .int .i64 x.all] (n := w.heap.size + 1) (by simp)
  have KK := Kp.new2 w (.cells #[.slice am c.members.length cm, .slice al c.laws.length cl, .slice av c.levels.length cv] 28) (.cells #[.int .i64 x.least, .int .i64 x.most, .int .i64 x.all] 34)
  have hxi := chance_in hx
  obtain ⟨m, hm⟩ := Int.eq_ofNat_of_zero_le hxi.1
  obtain ⟨a, ha⟩ := Int.eq_ofNat_of_zero_le (show 0 ≤ x.all by omega)
  have haL : a ≤ 1125899906842624 := by omega
  obtain ⟨H, L, hP⟩ := pr_of m 1000000000 (by omega) (by decide)
  obtain ⟨R, hR⟩ : ∃ R, R = levelOf c x := ⟨_, rfl⟩
  rw [← hR]
  replace hR := Lib.hid (show (c.levels.filter (reaches x)).length = R from hR.symm)
  replace hx := Lib.hid hx
  replace hl := Lib.hid hl
  replace hP := Lib.hid hP
  replace hm := Lib.hid hm
  replace ha := Lib.hid ha
  go_enter Tryz.func93, Tryz.ntmps93
  go_wp2_with fail
  obtain ⟨b1, hb1⟩ : ∃ q, q = w.heap.size := ⟨_, rfl⟩
  obtain ⟨b2, hb2⟩ : ∃ q, q = w.heap.size + 1 := ⟨_, rfl⟩
  rw [← hb2] at hB ⊢
  rw [← hb1] at hA ⊢
  generalize hw0 : (w.alloc (.cells #[.slice am c.members.length cm, .slice al c.laws.length cl, .slice av c.levels.length cv] 28)).alloc (.cells #[.int .i64 x.least, .int .i64 x.most, .int .i64 x.all] 34) = w0 at hA hB KK ⊢
  clear hw0 hb1 hb2
  replace h : Rd none w0 1 encI av c.levels.length c.levels := (h.kpN KK).v.rdN
  go_loopw [6, 5] (fun v n wr => LevAt R c.levels x w0 v n wr) (fun v _ _ => c.levels.length - (intOf v).toNat)
  case atStart => exact ⟨0, 0, rfl, rfl, by omega, by omega, by simpa using hR.out, Kp.refl _ _ _⟩
  case round =>
    obtain ⟨i, k, rfl, rfl, hi, hk, hj, K1⟩ := hrel
    replace hB := hB.kpN K1
    replace hA := hA.kpN K1
    have ca := fun i => hA.cell i
    by_cases h7 : i < c.levels.length
    · obtain ⟨b, o, rfl, hb, -, hcc⟩ := (h.kpN K1).at_ (by omega)
      have c0 := Rd.cell1 (f := fun y => .int .i64 y) (fun _ => rfl) hcc i h7
      have hi' : (i : Int) < (c.levels.length : Int) := by omega
      have hln := hl.out c.levels[i] (List.getElem_mem h7)
      rw [List.drop_eq_getElem_cons h7, List.filter_cons] at hj
      replace h := Lib.hid h
      generalize c.levels[i] = y at c0 hln hj
      obtain ⟨l, rfl⟩ := Int.eq_ofNat_of_zero_le (show 0 ≤ y by omega)
      obtain ⟨H', L', hQ⟩ := pr_of l a (by omega) (by omega)
      obtain ⟨H2, L2, hQ2⟩ := pr_of a l (by omega) (by omega)
      have hrc := reach_cmp x hm.out ha.out hP.out hQ
      have hsame : H2 = H' ∧ L2 = L' := ⟨by rw [hQ2.eH, hQ.eH, Nat.mul_comm], by rw [hQ2.eL, hQ.eL, Nat.mul_comm]⟩
      obtain ⟨rfl, rfl⟩ := hsame
      replace hQ2 := Lib.hid hQ2
      rw [hrc] at hj
      clear hrc hcc hQ
      replace h7 := Lib.hid h7
      have hk8 : (k : Int) ≤ 8 := by omega
      clear hi hln hxi
      have cr := ref_Cross_any m a l 1000000000 H L H2 L2 hP hQ2
      rw [← hm.out, ← ha.out] at cr
      go_upto_region 5 with (fail)
      clear ca
      replace hA := hA.drew
      replace hB := hB.drew
      have c0d : wr.drew.cell? ⟨b, o + i, none⟩ = some (.int .i64 l) := c0
      obtain ⟨S, hS⟩ : ∃ S : Nat → World → Prop, S = fun _ w' => (Blk w' b1 28 #[.slice am c.members.length cm, .slice al c.laws.length cl, .slice (some ⟨b, o, none⟩) c.levels.length cv]) ∧ Blk w' b2 34 #[.int .i64 x.least, .int .i64 x.most, .int .i64 x.all] ∧ w'.cell? ⟨b, o + i, none⟩ = some (.int .i64 l) := ⟨_, rfl⟩
      have hS0 : ∀ w', S 0 w' ↔ ((Blk w' b1 28 #[.slice am c.members.length cm, .slice al c.laws.length cl, .slice (some ⟨b, o, none⟩) c.levels.length cv]) ∧ Blk w' b2 34 #[.int .i64 x.least, .int .i64 x.most, .int .i64 x.all] ∧ w'.cell? ⟨b, o + i, none⟩ = some (.int .i64 l)) := fun w' => by rw [hS]
      clear hS
      have cx := fun (q : Ev (S 0)) i => ((hS0 _).1 q.h).1.cell i
      have cy := fun (q : Ev (S 0)) i => ((hS0 _).1 q.h).2.1.cell i
      have cz := fun (q : Ev (S 0)) => ((hS0 _).1 q.h).2.2
      have hevT := ev_true
      refine wp_region_ord S [(0, 0), (1, 1), (2, 0), (3, 1), (4, 0), (5, 0), (6, 1), (7, 0), (8, 0), (9, 1), (10, 0), (11, 2), (12, 0)] [] (by kernel_rfl) (by kernel_rfl) ((hS0 _).2 ⟨hA, hB, c0d⟩) ?_
      intro _hev
      iterate 11 (first | (refine wpOrd_v rfl rfl ?_; intro K hK; go_big_quiet_op; go_big_quiet_on) | (refine wpOrd_q rfl rfl ?_; intro K hK; go_big_quiet_op; go_big_quiet_on) | refine wpOrd_s (by decide) rfl rfl ?_)
      refine wpOrd_l rfl rfl ?_; intro K hK
      go_step
      refine (cr _).mono ?_
      rintro e w2 ⟨rfl, k2⟩
      have K2 : Kp w0.heap.size none w0 w2 := (K1.drew).thenN k2 (Nat.le_refl _)
      refine hK _ _ ((hS0 _).2 ⟨hA.kpN k2, hB.kpN k2, (k2.cell b _ hb (by simp)).trans c0d⟩) ?_
      clear hK K k2
      iterate 1 (first | (refine wpOrd_v rfl rfl ?_; intro K hK; go_big_quiet_op; go_big_quiet_on) | (refine wpOrd_q rfl rfl ?_; intro K hK; go_big_quiet_op; go_big_quiet_on) | refine wpOrd_s (by decide) rfl rfl ?_)
      refine wpOrd_nil ?_
      clear hevT _hev
      clear hS0 S cx cy cz K1
      generalize cmpHL H L H2 L2 = r at hj ⊢
      by_cases hr : 0 ≤ r
      · rw [decide_eq_true hr, if_pos rfl, List.length_cons] at hj
        replace hj := Lib.hid hj
        go_wp2
        go_roundw
        case rel => exact ⟨i + 1, k + 1, rfl, rfl, h7.out, by omega, by have := hj.out; omega, K2⟩
        case measure => have := h7.out; simp [intOf]; omega
      · rw [decide_eq_false hr, if_neg (by simp)] at hj
        replace hj := Lib.hid hj
        go_wp2
        go_roundw
        case rel => exact ⟨i + 1, k, rfl, rfl, h7.out, by omega, hj.out, K2⟩
        case measure => have := h7.out; simp [intOf]; omega
    · have he : i = c.levels.length := by omega
      have hi' : ¬ (i : Int) < (c.levels.length : Int) := by omega
      rw [he, List.drop_length] at hj
      have hj2 := Lib.hid (show k = R by simpa using hj)
      replace KK := KK.thenN K1 (Nat.le_refl _)
      clear h7 hi hj
      subst he
      go_wp2
      exact bodyPost_ret (v := .int .i64 R) (by simp [results, Tryz.results93, go_sem, hj2.out]) rfl ⟨rfl, KK⟩
/-- what a search by a loop has left -/
def FindAt {α β : Type} (R : Option β) (f : α → Option β) (xs : List α) (w : World) (v : Value) (wr : World) : Prop := ∃ i : Nat, v = .int .i64 i ∧ i ≤ xs.length ∧ (xs.drop i).findSome? f = R ∧ Kp w.heap.size none w wr
theorem findSome_drop {α β : Type} (f : α → Option β) (xs : List α) (i : Nat) (hi : i < xs.length) : (xs.drop i).findSome? f = match f xs[i] with | some y => some y | none => (xs.drop (i + 1)).findSome? f := by
  rw [List.drop_eq_getElem_cons hi, List.findSome?_cons]
  cases f xs[i] <;> rfl
theorem find_some {α : Type} (p : α → Bool) : ∀ xs : List α, xs.find? p = xs.findSome? fun x => if p x then some x else none
  | [] => rfl
  | x :: r => by
    rw [List.find?_cons, List.findSome?_cons, find_some p r]
    cases p x <;> rfl
set_option maxHeartbeats 1000000 in
theorem ref_lawOf_any (act : Int) (B : Nat) (V : CV) (c : Council) (w : World) (h : CAt B w V c) :
    Calls Tryz.prog 95 #[.agg #[.slice V.am c.members.length V.cm, .slice V.al c.laws.length V.cl, .slice V.av c.levels.length V.cv], .int .i64 act] w fun e w' => e = .returned (.tuple #[.agg #[.int .i64 (lawD c act).act, .int .i64 (lawD c act).level, .int .i64 (lawD c act).window, .int .i64 (lawD c act).quorum, .int .i64 (lawD c act).share], .bool (lawOf c act).isSome]) ∧ Kp w.heap.size none w w' := by
  obtain ⟨am, cm, al, cl, av, cv⟩ := V
  have hls := h.ls
  have hA := (Blk.new w 28 #[.slice am c.members.length cm, .slice al c.laws.length cl, .slice av c.levels.length cv]).alloc (.cells #[.int .i64 0, .int .i64 0, .int .i64 0, .int .i64 0, .int .i64 0] 101)
  have hB := Blk.newAt (w.alloc (.cells #[.slice am c.members.length cm, .slice al c.laws.length cl, .slice av c.levels.length cv] 28)) 101 #[.int .i64 0, .int .i64 0, .int .i64 0, .int .i64 0, .int .i64 0] (n := w.heap.size + 1) (by simp)
  have KK := Kp.new2 w (.cells #[.slice am c.members.length cm, .slice al c.laws.length cl, .slice av c.levels.length cv] 28) (.cells #[.int .i64 0, .int .i64 0, .int .i64 0, .int .i64 0, .int .i64 0] 101)
  obtain ⟨R, hR⟩ : ∃ R, R = lawOf c act := ⟨_, rfl⟩
  have eD : lawD c act = R.getD zeroLaw := by rw [hR]; rfl
  rw [eD, ← hR]
  have hR2 : R = c.laws.findSome? (fun x => if x.act == act then some x else none) := by rw [hR]; exact find_some _ _
  clear eD hR
  replace hR2 := Lib.hid hR2
  go_enter Tryz.func95, Tryz.ntmps95
  go_wp2_with fail
  obtain ⟨b1, hb1⟩ : ∃ q, q = w.heap.size := ⟨_, rfl⟩
  obtain ⟨b2, hb2⟩ : ∃ q, q = w.heap.size + 1 := ⟨_, rfl⟩
  rw [← hb2] at hB ⊢
  rw [← hb1] at hA ⊢
  have hwb : w.heap.size ≤ b2 := by omega
  generalize hw0 : (w.alloc (.cells #[.slice am c.members.length cm, .slice al c.laws.length cl, .slice av c.levels.length cv] 28)).alloc (.cells #[.int .i64 0, .int .i64 0, .int .i64 0, .int .i64 0, .int .i64 0] 101) = w0 at hA hB KK ⊢
  clear hw0 hb1 hb2
  replace h : Rd none w0 5 encLaw al c.laws.length c.laws := (h.kpN KK).l.rdN
  go_loopw [6] (fun v wr => FindAt R (fun x : LawC => if x.act == act then some x else none) c.laws w0 v wr) (fun v _ => c.laws.length - (intOf v).toNat)
  case atStart => exact ⟨0, rfl, by omega, by rw [List.drop_zero]; exact hR2.out.symm, Kp.refl _ _ _⟩
  case round =>
    obtain ⟨i, rfl, hi, hj, K1⟩ := hrel
    have hA2 := hA.kpN K1
    have hB2 := hB.kpN K1
    replace KK := KK.thenN K1 (Nat.le_refl _)
    have ca := fun i => hA2.cell i
    have cb := fun i => hB2.cell i
    have fb := fun i => hB2.frozen i
    by_cases h7 : i < c.laws.length
    · obtain ⟨b, o, rfl, hb, -, hcc⟩ := (h.kpN K1).at_ (by omega)
      have c0 : wr.cell? ⟨b, o + i * 5 + 0, none⟩ = some (.int .i64 c.laws[i].act) := by rw [Nat.add_assoc]; exact hcc i h7 0 _ rfl
      have c1 : wr.cell? ⟨b, o + i * 5 + 1, none⟩ = some (.int .i64 c.laws[i].level) := by rw [Nat.add_assoc]; exact hcc i h7 1 _ rfl
      have c2 : wr.cell? ⟨b, o + i * 5 + 2, none⟩ = some (.int .i64 c.laws[i].window) := by rw [Nat.add_assoc]; exact hcc i h7 2 _ rfl
      have c3 : wr.cell? ⟨b, o + i * 5 + 3, none⟩ = some (.int .i64 c.laws[i].quorum) := by rw [Nat.add_assoc]; exact hcc i h7 3 _ rfl
      have c4 : wr.cell? ⟨b, o + i * 5 + 4, none⟩ = some (.int .i64 c.laws[i].share) := by rw [Nat.add_assoc]; exact hcc i h7 4 _ rfl
      simp only [Nat.add_zero] at c0
      have hi' : (i : Int) < (c.laws.length : Int) := by omega
      rw [findSome_drop _ _ i h7] at hj
      clear hcc h hi
      generalize c.laws[i] = x at c0 c1 c2 c3 c4 hj
      replace h7 := Lib.hid h7
      by_cases hq : x.act = act
      · have hj2 : R = some x := by
          rw [show (if (x.act == act) = true then some x else none) = some x by rw [if_pos (by simpa using hq)]] at hj
          exact hj.symm
        clear hj hR2
        subst hj2
        subst hq
        go_wp2_with fail
        refine bodyPost_ret (v := .tuple #[.agg #[.int .i64 x.act, .int .i64 x.level, .int .i64 x.window, .int .i64 x.quorum, .int .i64 x.share], .bool true]) (by simp [results, Tryz.results95, go_sem, cb]) rfl ⟨rfl, ?_⟩
        iterate 5 refine Kp.setNew ?_ hwb _
        exact KK
      · have hj2 := Lib.hid (show (c.laws.drop (i + 1)).findSome? (fun x : LawC => if x.act == act then some x else none) = R by
          rw [show (if (x.act == act) = true then some x else none) = none by rw [if_neg (by simpa using hq)]] at hj
          exact hj)
        clear hj
        go_wp2
        go_roundw
        case rel => exact ⟨i + 1, rfl, h7.out, hj2.out, K1⟩
        case measure => have := h7.out; simp [intOf]; omega
    · have he : i = c.laws.length := by omega
      have hi' : ¬ (i : Int) < (c.laws.length : Int) := by omega
      rw [he, List.drop_length] at hj
      have hj2 : R = none := hj.symm
      clear hj hR2 h7 hi
      subst hj2
      subst he
      go_wp2_with fail
      refine bodyPost_ret (v := .tuple #[.agg #[.int .i64 0, .int .i64 0, .int .i64 0, .int .i64 0, .int .i64 0], .bool false]) (by simp [results, Tryz.results95, go_sem, cb]) rfl ⟨rfl, ?_⟩
      iterate 5 refine Kp.setNew ?_ hwb _
      exact KK
set_option maxHeartbeats 1000000 in
theorem ref_weight_any (id : Int) (B : Nat) (V : CV) (c : Council) (w : World) (h : CAt B w V c) :
    Calls Tryz.prog 97 #[.agg #[.slice V.am c.members.length V.cm, .slice V.al c.laws.length V.cl, .slice V.av c.levels.length V.cv], .int .i64 id] w fun e w' => e = .returned (.int .i64 (wOf c id)) ∧ Kp w.heap.size none w w' := by
  obtain ⟨am, cm, al, cl, av, cv⟩ := V
  have hls := h.ms
  have hA := Blk.new w 28 #[.slice am c.members.length cm, .slice al c.laws.length cl, .slice av c.levels.length cv]
  have KK := Kp.new w (.cells #[.slice am c.members.length cm, .slice al c.laws.length cl, .slice av c.levels.length cv] 28)
  obtain ⟨R, hR⟩ : ∃ R, R = memOf c id := ⟨_, rfl⟩
  have eD : wOf c id = (R.map Member.weight).getD 0 := by rw [hR]; unfold wOf; cases memOf c id <;> rfl
  rw [eD]
  have hR2 : R = c.members.findSome? (fun x => if x.id == id then some x else none) := by rw [hR]; exact find_some _ _
  clear eD hR
  replace hR2 := Lib.hid hR2
  go_enter Tryz.func97, Tryz.ntmps97
  go_wp2_with fail
  generalize w.alloc (.cells #[.slice am c.members.length cm, .slice al c.laws.length cl, .slice av c.levels.length cv] 28) = w0 at hA KK h ⊢
  replace h : Rd none w0 2 encMember am c.members.length c.members := (h.kpN KK).m.rdN
  go_loopw [5] (fun v wr => FindAt R (fun x : Member => if x.id == id then some x else none) c.members w0 v wr) (fun v _ => c.members.length - (intOf v).toNat)
  case atStart => exact ⟨0, rfl, by omega, by rw [List.drop_zero]; exact hR2.out.symm, Kp.refl _ _ _⟩
  case round =>
    obtain ⟨i, rfl, hi, hj, K1⟩ := hrel
    have hA2 := hA.kpN K1
    replace KK := KK.thenN K1 (Nat.le_refl _)
    have ca := fun i => hA2.cell i
    by_cases h7 : i < c.members.length
    · obtain ⟨b, o, rfl, hb, -, hcc⟩ := (h.kpN K1).at_ (by omega)
      have c0 : wr.cell? ⟨b, o + i * 2, none⟩ = some (.int .i64 c.members[i].id) := hcc i h7 0 _ rfl
      have c1 : wr.cell? ⟨b, o + i * 2 + 1, none⟩ = some (.int .i64 c.members[i].weight) := by rw [Nat.add_assoc]; exact hcc i h7 1 _ rfl
      have hi' : (i : Int) < (c.members.length : Int) := by omega
      rw [findSome_drop _ _ i h7] at hj
      clear hcc h hi
      generalize c.members[i] = x at c0 c1 hj
      replace h7 := Lib.hid h7
      by_cases hq : x.id = id
      · have hj2 : R = some x := by
          rw [show (if (x.id == id) = true then some x else none) = some x by rw [if_pos (by simpa using hq)]] at hj
          exact hj.symm
        clear hj hR2
        subst hj2
        subst hq
        go_wp2
        go_ret
        exact ⟨rfl, KK⟩
      · have hj2 := Lib.hid (show (c.members.drop (i + 1)).findSome? (fun x : Member => if x.id == id then some x else none) = R by
          rw [show (if (x.id == id) = true then some x else none) = none by rw [if_neg (by simpa using hq)]] at hj
          exact hj)
        clear hj
        go_wp2
        go_roundw
        case rel => exact ⟨i + 1, rfl, h7.out, hj2.out, K1⟩
        case measure => have := h7.out; simp [intOf]; omega
    · have he : i = c.members.length := by omega
      have hi' : ¬ (i : Int) < (c.members.length : Int) := by omega
      rw [he, List.drop_length] at hj
      have hj2 : R = none := hj.symm
      clear hj hR2 h7 hi
      subst hj2
      subst he
      go_wp2
      go_ret
      exact ⟨rfl, KK⟩
theorem any_some (n : Int) : ∀ xs : List Int, decide (n ∈ xs) = (xs.findSome? fun x => if x == n then some true else none).isSome
  | [] => rfl
  | x :: r => by
    rw [List.findSome?_cons]
    by_cases h : x = n
    · subst h; simp
    · rw [show (if (x == n) = true then some true else none) = none by rw [if_neg (by simpa using h)]]
      simp only
      rw [← any_some n r]
      simp [Ne.symm h]
set_option maxHeartbeats 1000000 in
theorem ref_has_any (n : Int) (A : Option Addr) (cap : Nat) (xs : List Int) (w : World) (h : Rd none w 1 encI A xs.length xs) (hn : xs.length ≤ 17592186044416) :
    Calls Tryz.prog 98 #[.slice A xs.length cap, .int .i64 n] w fun e w' => e = .returned (.bool (decide (n ∈ xs))) ∧ Kp w.heap.size none w w' := by
  rw [any_some]
  obtain ⟨R, hR2⟩ : ∃ R, R = xs.findSome? (fun x => if x == n then some true else none) := ⟨_, rfl⟩
  rw [← hR2]
  replace hR2 := Lib.hid hR2
  go_enter Tryz.func98, Tryz.ntmps98
  go_wp2_with fail
  go_loopw [5] (fun v wr => FindAt R (fun x : Int => if x == n then some true else none) xs w v wr) (fun v _ => xs.length - (intOf v).toNat)
  case atStart => exact ⟨0, rfl, by omega, by rw [List.drop_zero]; exact hR2.out.symm, Kp.refl _ _ _⟩
  case round =>
    obtain ⟨i, rfl, hi, hj, K1⟩ := hrel
    by_cases h7 : i < xs.length
    · obtain ⟨b, o, rfl, hb, -, hcc⟩ := (h.kpN K1).at_ (by omega)
      have c0 := Rd.cell1 (f := fun y => .int .i64 y) (fun _ => rfl) hcc i h7
      have hi' : (i : Int) < (xs.length : Int) := by omega
      rw [findSome_drop _ _ i h7] at hj
      clear hcc h hi
      generalize xs[i] = x at c0 hj
      replace h7 := Lib.hid h7
      by_cases hq : x = n
      · have hj2 : R = some true := by
          rw [show (if (x == n) = true then some true else none) = some true by rw [if_pos (by simpa using hq)]] at hj
          exact hj.symm
        clear hj hR2
        subst hj2
        subst hq
        go_wp2
        go_ret
        exact ⟨rfl, K1⟩
      · have hj2 := Lib.hid (show (xs.drop (i + 1)).findSome? (fun x : Int => if x == n then some true else none) = R by
          rw [show (if (x == n) = true then some true else none) = none by rw [if_neg (by simpa using hq)]] at hj
          exact hj)
        clear hj
        go_wp2
        go_roundw
        case rel => exact ⟨i + 1, rfl, h7.out, hj2.out, K1⟩
        case measure => have := h7.out; simp [intOf]; omega
    · have he : i = xs.length := by omega
      have hi' : ¬ (i : Int) < (xs.length : Int) := by omega
      rw [he, List.drop_length] at hj
      have hj2 : R = none := hj.symm
      clear hj hR2 h7 hi
      subst hj2
      subst he
      go_wp2
      go_ret
      exact ⟨rfl, K1⟩
end Go.Proofs.YtogpgnljomchcaaGreat
namespace Go.Proofs.YtogpgnljomchcaaGreat
open Go.RowKit

set_option maxHeartbeats 1000000 in
theorem ref_votes_any (x : LawC) (yes no : Int) (B : Nat) (V : CV) (c : Council) (w : World) (h : CAt B w V c) (hc : CouncilOk c) (hx : LawIn x) (hy : 0 ≤ yes) (hn : 0 ≤ no) (hyn : yes + no ≤ 2251799813685248) :
    Calls Tryz.prog 99 #[.agg #[.slice V.am c.members.length V.cm, .slice V.al c.laws.length V.cl, .slice V.av c.levels.length V.cv], .agg #[.int .i64 x.act, .int .i64 x.level, .int .i64 x.window, .int .i64 x.quorum, .int .i64 x.share], .int .i64 yes, .int .i64 no] w fun e w' => e = .returned (.bool (votesOk c x yes no)) ∧ Kp w.heap.size none w w' := by
  have hA := (Blk.new w 28 #[.slice V.am c.members.length V.cm, .slice V.al c.laws.length V.cl, .slice V.av c.levels.length V.cv]).alloc (.cells #[.int .i64 x.act, .int .i64 x.level, .int .i64 x.window, .int .i64 x.quorum, .int .i64 x.share] 101)
  have hB := Blk.newAt (w.alloc (.cells #[.slice V.am c.members.length V.cm, .slice V.al c.laws.length V.cl, .slice V.av c.levels.length V.cv] 28)) 101 #[.int .i64 x.act, .int .i64 x.level, .int .i64 x.window, .int .i64 x.quorum, .int .i64 x.share] (n := w.heap.size + 1) (by simp)
  have KK := Kp.new2 w (.cells #[.slice V.am c.members.length V.cm, .slice V.al c.laws.length V.cl, .slice V.av c.levels.length V.cv] 28) (.cells #[.int .i64 x.act, .int .i64 x.level, .int .i64 x.window, .int .i64 x.quorum, .int .i64 x.share] 101)
  obtain ⟨R, hR⟩ : ∃ R, R = votesOk c x yes no := ⟨_, rfl⟩
  rw [← hR]
  replace hR := Lib.hid hR
  have hs := sumW_bd c.members hc.mem
  have hl : (c.members.length : Int) ≤ 64 := by have := hc.mlen; omega
  have hm := hc.mlen
  obtain ⟨am, cm, al, cl, av, cv⟩ := V
  have hw := hc.mem
  replace hc := Lib.hid hc
  replace hw := Lib.hid hw
  go_enter Tryz.func99, Tryz.ntmps99
  go_wp2_with fail
  obtain ⟨b1, hb1⟩ : ∃ q, q = w.heap.size := ⟨_, rfl⟩
  obtain ⟨b2, hb2⟩ : ∃ q, q = w.heap.size + 1 := ⟨_, rfl⟩
  rw [← hb2] at hB ⊢
  rw [← hb1] at hA ⊢
  generalize hw0 : (w.alloc (.cells #[.slice am c.members.length cm, .slice al c.laws.length cl, .slice av c.levels.length cv] 28)).alloc (.cells #[.int .i64 x.act, .int .i64 x.level, .int .i64 x.window, .int .i64 x.quorum, .int .i64 x.share] 101) = w0 at hA hB KK ⊢
  clear hw0 hb1 hb2
  replace h : Rd none w0 2 encMember am c.members.length c.members := (h.kpN KK).m.rdN
  go_loopw [10, 9] (fun v n wr => SumAt c.members w0 v n wr) (fun v _ _ => c.members.length - (intOf v).toNat)
  case atStart => exact ⟨0, 0, rfl, rfl, by omega, by omega, by omega, by simp, Kp.refl _ _ _⟩
  case round =>
    obtain ⟨i, s, rfl, rfl, hi, hs0, hs1, hj, K1⟩ := hrel
    replace hA := hA.kpN K1
    replace hB := hB.kpN K1
    have ca := fun i => hA.cell i
    by_cases h7 : i < c.members.length
    · obtain ⟨b, o, rfl, hb, -, hc⟩ := (h.kpN K1).at_ (by omega)
      have c1 : wr.cell? ⟨b, o + i * 2 + 1, none⟩ = some (.int .i64 c.members[i].weight) := by rw [Nat.add_assoc]; exact hc i h7 1 _ rfl
      have hi' : (i : Int) < (c.members.length : Int) := by omega
      have hwi := hw.out c.members[i] (List.getElem_mem h7)
      have hj2 : s + (c.members[i].weight + ((c.members.drop (i + 1)).map Member.weight).sum) = (c.members.map Member.weight).sum := by
        rw [List.drop_eq_getElem_cons h7, List.map_cons, List.sum_cons] at hj
        exact hj
      replace h := Lib.hid h
      generalize c.members[i] = y at c1 hwi hj2
      replace hj2 := Lib.hid hj2
      have hb2 : s + y.weight ≤ ((i + 1 : Nat) : Int) * 1099511627776 := by push_cast; omega
      have hb1 : s + y.weight ≤ 70368744177664 := by omega
      have hb0 : 0 ≤ s + y.weight := by omega
      replace hb2 := Lib.hid hb2
      have hwr : wrap64 (s + y.weight) = s + y.weight := IntWalk.wrap64_in _ (by omega)
      replace h7 := Lib.hid h7
      clear hj hc hs1 hi hs
      go_wp2
      go_roundw
      case rel => exact ⟨i + 1, s + y.weight, rfl, rfl, h7.out, hb0, hb2.out, by rw [← hj2.out]; omega, K1⟩
      case measure => have := h7.out; simp [intOf]; omega
    · have he : i = c.members.length := by omega
      have hi' : ¬ (i : Int) < (c.members.length : Int) := by omega
      rw [he, List.drop_length] at hj
      have hj : s = (c.members.map Member.weight).sum := by simpa using hj
      replace KK := KK.thenN K1 (Nat.le_refl _)
      clear h7 hi hs0 hs1 h K1
      subst he
      subst hj
      have cb := fun i => hB.cell i
      replace hR := Lib.hid (show R = (decide (x.quorum * (c.members.map Member.weight).sum ≤ (yes + no) * 1000) && decide (x.share * (c.members.map Member.weight).sum ≤ yes * 1000)) by rw [hR.out, Int.mul_comm (yes + no), Int.mul_comm yes]; rfl)
      clear hw hc
      generalize (c.members.map Member.weight).sum = S at hs hR ⊢
      have hS1 : S ≤ 70368744177664 := by omega
      have hS0 := hs.1
      have e1 := mul_wrap hx.q0 hx.q1 hS0 hS1
      have e2 := mul_wrap hx.s0 hx.s1 hS0 hS1
      have e3 : wrap64 (yes + no) = yes + no := IntWalk.wrap64_in _ (by omega)
      have e4 : wrap64 ((yes + no) * 1000) = (yes + no) * 1000 := IntWalk.wrap64_in _ (by omega)
      have e5 : wrap64 (yes * 1000) = yes * 1000 := IntWalk.wrap64_in _ (by omega)
      clear hs hm hl hS0 hS1 hx hy hn hyn
      go_wp2
      all_goals
        go_ret
        refine ⟨ret_bool ?_, KK⟩
        rw [hR.out]
        rename_i hlt
        first
          | (rw [decide_eq_true hlt, Bool.true_and]; done)
          | (rw [decide_eq_true hlt, Bool.true_and])
          | (rw [decide_eq_false (Int.not_le.2 hlt), Bool.false_and])

end Go.Proofs.YtogpgnljomchcaaGreat
