/- Which councils are valid; levels; whether weights suffice: the reference. -/
import Derived.Test.YtogpgnljomchcaaGreatCoAll
import Derived.Deep.DeepCutAuto
namespace Go.Proofs.YtogpgnljomchcaaGreat
open Go.RowKit

set_option maxHeartbeats 1000000 in
theorem ref_checkLaw_any (x : LawC) (last : Int) (w : World) :
    Calls Tryz.prog 66 #[.agg #[.int .i64 x.act, .int .i64 x.level, .int .i64 x.window, .int .i64 x.quorum, .int .i64 x.share], .int .i64 last] w fun e w' => e = .returned (.int .i64 (lawErr x last)) ∧ Kp w.heap.size none w w' := by
  have hb := Blk.new w 101 #[.int .i64 x.act, .int .i64 x.level, .int .i64 x.window, .int .i64 x.quorum, .int .i64 x.share]
  have KK := Kp.new w (.cells #[.int .i64 x.act, .int .i64 x.level, .int .i64 x.window, .int .i64 x.quorum, .int .i64 x.share] 101)
  have fin : ∀ (e : Ending) (w' : World) (n : Int), e = .returned (.int .i64 n) → n = lawErr x last → Kp w.heap.size none w w' → e = .returned (.int .i64 (lawErr x last)) ∧ Kp w.heap.size none w w' := fun e w' n h1 h2 h3 => ⟨h2 ▸ h1, h3⟩
  replace fin := Lib.hid fin
  go_enter Tryz.func66, Tryz.ntmps66
  by_cases h1 : x.act ≤ last
  · go_wp2
    go_ret
    exact fin.out _ _ _ rfl (by unfold lawErr; rw [if_pos h1]) KK
  have bad : lawBad x → 2 = lawErr x last := fun h => by unfold lawErr; rw [if_neg h1, if_pos h]
  have good : ¬ lawBad x → 0 = lawErr x last := fun h => by unfold lawErr; rw [if_neg h1, if_neg h]
  unfold lawBad at bad good
  replace bad := Lib.hid bad
  replace good := Lib.hid good
  by_cases hl0 : x.level < 0
  · have hz := Lib.hid (bad.out (.inl hl0))
    go_wp2
    go_ret
    exact fin.out _ _ _ rfl hz.out KK
  by_cases hl8 : 8 < x.level
  · have hz := Lib.hid (bad.out (.inr (.inl hl8)))
    go_wp2
    go_ret
    exact fin.out _ _ _ rfl hz.out KK
  go_upto_region 1 with (fail)
  generalize w.alloc (.cells #[.int .i64 x.act, .int .i64 x.level, .int .i64 x.window, .int .i64 x.quorum, .int .i64 x.share] 101) = w1 at hb KK ⊢
  have cb := fun i => hb.cell i
  go_wp2_with fail
  refine (bolideref09_between_any _ _ _ _).mono ?_
  rintro e w2 ⟨rfl, k2⟩
  replace hb := hb.kpN k2
  have cb := fun i => hb.cell i
  replace KK := KK.thenN k2 (Nat.le_refl _)
  clear k2
  cases hb1 : bt x.window 0 1073741824
  · have hz := Lib.hid (bad.out (by have := bt_false hb1; omega))
    go_wp2
    go_ret
    exact fin.out _ _ _ rfl hz.out KK
  replace hb1 := Lib.hid (bt_true hb1)
  go_wp2_with fail
  refine (bolideref09_between_any _ _ _ _).mono ?_
  rintro e w2 ⟨rfl, k2⟩
  replace hb := hb.kpN k2
  have cb := fun i => hb.cell i
  replace KK := KK.thenN k2 (Nat.le_refl _)
  clear k2
  cases hb2 : bt x.quorum 0 1000
  · have hz := Lib.hid (bad.out (by have := bt_false hb2; omega))
    go_wp2
    go_ret
    exact fin.out _ _ _ rfl hz.out KK
  replace hb2 := Lib.hid (bt_true hb2)
  go_wp2_with fail
  refine (bolideref09_between_any _ _ _ _).mono ?_
  rintro e w2 ⟨rfl, k2⟩
  replace hb := hb.kpN k2
  have cb := fun i => hb.cell i
  replace KK := KK.thenN k2 (Nat.le_refl _)
  clear k2
  cases hb3 : bt x.share 0 1000
  · have hz := Lib.hid (bad.out (by have := bt_false hb3; omega))
    go_wp2
    go_ret
    exact fin.out _ _ _ rfl hz.out KK
  replace hb3 := Lib.hid (bt_true hb3)
  have hg := Lib.hid (good.out (by have := hb1.out; have := hb2.out; have := hb3.out; omega))
  go_wp2
  go_ret
  exact fin.out _ _ _ rfl hg.out KK
set_option maxHeartbeats 2000000 in
theorem ref_Check_any (B : Nat) (V : CV) (c : Council) (w : World) (h : CAt B w V c) :
    Calls Tryz.prog 49 #[.agg #[.slice V.am c.members.length V.cm, .slice V.al c.laws.length V.cl, .slice V.av c.levels.length V.cv]] w fun e w' => e = .returned (.int .i64 (checkC c)) ∧ Kp w.heap.size none w w' := by
  obtain ⟨am, cm, al, cl, av, cv⟩ := V
  have KK := Kp.new w (.cells #[.slice am c.members.length cm, .slice al c.laws.length cl, .slice av c.levels.length cv] 28)
  have hA := Blk.new w 28 #[.slice am c.members.length cm, .slice al c.laws.length cl, .slice av c.levels.length cv]
  have fin : ∀ (e : Ending) (w' : World) (n : Int), e = .returned (.int .i64 n) → n = checkC c → Kp w.heap.size none w w' → e = .returned (.int .i64 (checkC c)) ∧ Kp w.heap.size none w w' := fun e w' n h1 h2 h3 => ⟨h2 ▸ h1, h3⟩
  replace fin := Lib.hid fin
  have hms := h.ms
  have hls := h.ls
  have hvs := h.vs
  have hM : Rd none _ 2 encMember am c.members.length c.members := (h.kpN KK).m.rdN
  have hL : Rd none _ 5 encLaw al c.laws.length c.laws := (h.kpN KK).l.rdN
  have hV : Rd none _ 1 encI av c.levels.length c.levels := (h.kpN KK).v.rdN
  clear h
  go_enter Tryz.func49, Tryz.ntmps49
  by_cases h0 : c.members.length = 0
  · have h0' : (c.members.length : Int) = 0 := by omega
    go_wp2
    go_ret
    exact fin.out _ _ _ rfl (by unfold checkC; rw [if_pos h0]) (Kp.new _ _)
  have h0' : ¬ (c.members.length : Int) = 0 := by omega
  by_cases h1 : 64 < c.members.length
  · have h1' : 64 < (c.members.length : Int) := by omega
    go_wp2
    go_ret
    exact fin.out _ _ _ rfl (by unfold checkC; rw [if_neg h0, if_pos h1]) KK
  have h1' : ¬ 64 < (c.members.length : Int) := by omega
  go_wp2_with fail
  generalize w.alloc (.cells #[.slice am c.members.length cm, .slice al c.laws.length cl, .slice av c.levels.length cv] 28) = w0 at hA hM hL hV KK ⊢
  obtain ⟨V1, hV1⟩ : ∃ V1, V1 = chkMembers 0 c.members := ⟨_, rfl⟩
  have fm := checkC_m h0 h1
  have fl := checkC_l h0 h1
  have fv := checkC_v h0 h1
  rw [← hV1] at fm fl fv
  replace hV1 := Lib.hid hV1
  replace fm := Lib.hid fm
  replace fl := Lib.hid fl
  replace fv := Lib.hid fv
  replace h0 := Lib.hid h0
  replace h1 := Lib.hid h1
  go_loopw [4, 3] (fun v n wr => CkAt chkMembers V1 c.members w0 v n wr) (fun v _ _ => c.members.length - (intOf v).toNat)
  case atStart => exact ⟨0, 0, rfl, rfl, by omega, by simpa using hV1.out.symm, Kp.refl _ _ _⟩
  case round =>
    obtain ⟨i, last, rfl, rfl, hi, hj, K1⟩ := hrel
    have hA2 := hA.kpN K1
    have ca := fun i => hA2.cell i
    by_cases h7 : i < c.members.length
    · obtain ⟨b, o, rfl, hb, -, hcc⟩ := (hM.kpN K1).at_ (by omega)
      have hcell : ∀ W, Kp wr.heap.size none wr W → W.cell? ⟨b, o + i * 2, none⟩ = some (.int .i64 c.members[i].id) ∧ W.cell? ⟨b, o + i * 2 + 1, none⟩ = some (.int .i64 c.members[i].weight) := fun W k =>
        ⟨(k.cell b _ hb (by simp)).trans (hcc i h7 0 _ rfl), (k.cell b _ hb (by simp)).trans (by rw [Nat.add_assoc]; exact hcc i h7 1 _ rfl)⟩
      have hi' : (i : Int) < (c.members.length : Int) := by omega
      rw [chkM_drop last c.members i h7] at hj
      clear hcc hM hL hV
      generalize c.members[i] = x at hcell hj
      obtain ⟨c0, c1⟩ := hcell wr (Kp.refl _ _ _)
      replace hcell := Lib.hid hcell
      have K2 := KK.thenN K1 (Nat.le_refl _)
      clear hi
      replace h7 := Lib.hid h7
      by_cases hq : x.id ≤ last
      · rw [if_pos hq] at hj
        have hj := Lib.hid (show V1 = 11 from hj.symm)
        go_wp2
        go_ret
        exact fin.out _ _ _ rfl (hj.out ▸ (fm.out (by rw [hj.out]; decide)).symm) K2
      · rw [if_neg hq] at hj
        replace hj := Lib.hid hj
        go_wp2_with fail
        refine (bolideref09_between_any _ _ _ _).mono ?_
        rintro e w2 ⟨rfl, k2⟩
        replace hA2 := hA2.kpN k2
        replace K2 := K2.thenN k2 (Nat.le_refl _)
        replace K1 := K1.thenN k2 (Nat.le_refl _)
        clear ca c0 c1
        have ca := fun i => hA2.cell i
        obtain ⟨c0, c1⟩ := hcell.out w2 k2
        clear k2 hcell
        cases hbt : bt x.weight 1 1099511627776
        · have hj := Lib.hid (show V1 = 2 by have := hj.out; rw [if_pos (bt_false hbt)] at this; exact this.symm)
          go_wp2
          go_ret
          exact fin.out _ _ _ rfl (hj.out ▸ (fm.out (by rw [hj.out]; decide)).symm) K2
        · have hj := Lib.hid (show chkMembers x.id (c.members.drop (i + 1)) = V1 by have := hj.out; rw [if_neg (by have := bt_true hbt; omega)] at this; exact this)
          go_wp2
          go_roundw
          case rel => exact ⟨i + 1, x.id, rfl, rfl, h7.out, hj.out, K1⟩
          case measure => have := h7.out; simp [intOf]; omega
    · have he : i = c.members.length := by omega
      have hi' : ¬ (i : Int) < (c.members.length : Int) := by omega
      rw [he, List.drop_length] at hj
      have hj2 := Lib.hid (show V1 = 0 from hj.symm)
      replace hL := hL.kpN K1
      replace hV := hV.kpN K1
      replace KK := KK.thenN K1 (Nat.le_refl _)
      have hm0 := Lib.hid (show chkMembers 0 c.members = 0 by rw [← hV1.out]; exact hj2.out)
      clear h7 hi hj hM fm hV1 K1 hA
      have hA := hA2
      clear hA2
      subst he
      by_cases h16 : 16 < c.laws.length
      · have h16' : 16 < (c.laws.length : Int) := by omega
        have hz := Lib.hid (show 8 = checkC c by unfold checkC; rw [if_neg h0.out, if_neg h1.out, if_neg (by simpa using hm0.out), if_pos h16])
        go_wp2
        go_ret
        exact fin.out _ _ _ rfl hz.out KK
      have h16' : ¬ 16 < (c.laws.length : Int) := by omega
      go_wp2_with fail
      have fl := Lib.hid (fl.out hj2.out h16)
      have fv := Lib.hid (fv.out hj2.out h16)
      obtain ⟨V2, hV2⟩ : ∃ V2, V2 = chkLaws 0 c.laws := ⟨_, rfl⟩
      rw [← hV2] at fl fv
      replace hV2 := Lib.hid hV2
      replace h16 := Lib.hid h16
      clear hj2 ca
      rename World => w1
      go_loopw [5, 3] (fun v n w2 => CkAt chkLaws V2 c.laws w1 v n w2) (fun v _ _ => c.laws.length - (intOf v).toNat)
      case atStart => exact ⟨0, 0, rfl, rfl, by omega, by simpa using hV2.out.symm, Kp.refl _ _ _⟩
      case round =>
        obtain ⟨i, last, rfl, rfl, hi, hj, K1⟩ := hrel
        have hA2 := hA.kpN K1
        have ca := fun i => hA2.cell i
        by_cases h7 : i < c.laws.length
        · obtain ⟨b, o, rfl, hb, -, hcc⟩ := (hL.kpN K1).at_ (by omega)
          have c0 : wr.cell? ⟨b, o + i * 5 + 0, none⟩ = some (.int .i64 c.laws[i].act) := by rw [Nat.add_assoc]; exact hcc i h7 0 _ rfl
          have c1 : wr.cell? ⟨b, o + i * 5 + 1, none⟩ = some (.int .i64 c.laws[i].level) := by rw [Nat.add_assoc]; exact hcc i h7 1 _ rfl
          have c2 : wr.cell? ⟨b, o + i * 5 + 2, none⟩ = some (.int .i64 c.laws[i].window) := by rw [Nat.add_assoc]; exact hcc i h7 2 _ rfl
          have c3 : wr.cell? ⟨b, o + i * 5 + 3, none⟩ = some (.int .i64 c.laws[i].quorum) := by rw [Nat.add_assoc]; exact hcc i h7 3 _ rfl
          have c4 : wr.cell? ⟨b, o + i * 5 + 4, none⟩ = some (.int .i64 c.laws[i].share) := by rw [Nat.add_assoc]; exact hcc i h7 4 _ rfl
          simp only [Nat.add_zero] at c0
          have hi' : (i : Int) < (c.laws.length : Int) := by omega
          rw [chkL_drop last c.laws i h7] at hj
          clear hcc hL hV
          generalize c.laws[i] = x at c0 c1 c2 c3 c4 hj
          have d0 : ∀ W, Kp wr.heap.size none wr W → W.cell? ⟨b, o + i * 5, none⟩ = some (.int .i64 x.act) := fun W k => (k.cell b _ hb (by simp)).trans c0
          replace d0 := Lib.hid d0
          have K2 := KK.thenN K1 (Nat.le_refl _)
          clear hi
          replace h7 := Lib.hid h7
          have kz : lawErr x last ≠ 0 → lawErr x last = V2 := fun hz => by rw [if_neg hz] at hj; exact hj
          have bad : lawErr x last ≠ 0 → lawErr x last = checkC c := fun hz => by
            have := kz hz
            rw [this] at hz ⊢
            exact (fl.out hz).symm
          have good : lawErr x last = 0 → chkLaws x.act (c.laws.drop (i + 1)) = V2 := fun hz => by rw [if_pos hz] at hj; exact hj
          replace bad := Lib.hid bad
          replace good := Lib.hid good
          clear hj kz
          go_wp2_with fail
          refine (ref_checkLaw_any x last _).mono ?_
          rintro e w2 ⟨rfl, k2⟩
          replace hA2 := hA2.kpN k2
          replace K2 := K2.thenN k2 (Nat.le_refl _)
          replace K1 := K1.thenN k2 (Nat.le_refl _)
          clear ca c0 c1 c2 c3 c4
          have ca := fun i => hA2.cell i
          have c0 := d0.out w2 k2
          clear k2 d0
          by_cases hz0 : lawErr x last = 0
          · rw [hz0]
            have hg := Lib.hid (good.out hz0)
            clear bad good hz0
            go_wp2
            go_roundw
            case rel => exact ⟨i + 1, x.act, rfl, rfl, h7.out, hg.out, K1⟩
            case measure => have := h7.out; simp [intOf]; omega
          · have hg := Lib.hid (bad.out hz0)
            clear bad good
            generalize lawErr x last = E at hz0 hg ⊢
            go_wp2
            go_ret
            exact fin.out _ _ _ rfl hg.out K2
        · have he : i = c.laws.length := by omega
          have hi' : ¬ (i : Int) < (c.laws.length : Int) := by omega
          rw [he, List.drop_length] at hj
          have hj2 := Lib.hid (show V2 = 0 from hj.symm)
          replace hV := hV.kpN K1
          replace KK := KK.thenN K1 (Nat.le_refl _)
          have hl0 := Lib.hid (show chkLaws 0 c.laws = 0 by rw [← hV2.out]; exact hj2.out)
          clear h7 hi hj hL fl hV2 K1 hA
          have hA := hA2
          clear hA2
          subst he
          by_cases h8 : 8 < c.levels.length
          · have h8' : 8 < (c.levels.length : Int) := by omega
            have hz := Lib.hid (show 8 = checkC c by unfold checkC; rw [if_neg h0.out, if_neg h1.out, if_neg (by simpa using hm0.out), if_neg h16.out, if_neg (by simpa using hl0.out), if_pos h8])
            go_wp2
            go_ret
            exact fin.out _ _ _ rfl hz.out KK
          have h8' : ¬ 8 < (c.levels.length : Int) := by omega
          go_wp2_with fail
          have fv := Lib.hid (fv.out hj2.out h8)
          clear ca
          rename World => w1
          go_loopw [8, 7] (fun v n w2 => CkAt chkLevels (checkC c) c.levels w1 v n w2) (fun v _ _ => c.levels.length - (intOf v).toNat)
          case atStart => exact ⟨0, 0, rfl, rfl, by omega, by simpa using fv.out.symm, Kp.refl _ _ _⟩
          case round =>
            obtain ⟨i, last, rfl, rfl, hi, hj, K1⟩ := hrel
            have hA2 := hA.kpN K1
            have ca := fun i => hA2.cell i
            by_cases h7 : i < c.levels.length
            · obtain ⟨b, o, rfl, hb, -, hcc⟩ := (hV.kpN K1).at_ (by omega)
              have c0 := Rd.cell1 (f := fun y => .int .i64 y) (fun _ => rfl) hcc i h7
              have hi' : (i : Int) < (c.levels.length : Int) := by omega
              rw [chkV_drop last c.levels i h7] at hj
              clear hcc hV
              generalize c.levels[i] = x at c0 hj
              have K2 := KK.thenN K1 (Nat.le_refl _)
              clear hi
              replace h7 := Lib.hid h7
              by_cases hq : x ≤ last
              · rw [if_pos hq] at hj
                replace hj := Lib.hid hj
                go_wp2
                go_ret
                exact fin.out _ _ _ rfl hj.out K2
              · rw [if_neg hq] at hj
                by_cases hq2 : 1000000000 < x
                · rw [if_pos hq2] at hj
                  replace hj := Lib.hid hj
                  go_wp2
                  go_ret
                  exact fin.out _ _ _ rfl hj.out K2
                · rw [if_neg hq2] at hj
                  replace hj := Lib.hid hj
                  go_wp2
                  go_roundw
                  case rel => exact ⟨i + 1, x, rfl, rfl, h7.out, hj.out, K1⟩
                  case measure => have := h7.out; simp [intOf]; omega
            · have he : i = c.levels.length := by omega
              have hi' : ¬ (i : Int) < (c.levels.length : Int) := by omega
              rw [he, List.drop_length] at hj
              replace hj := Lib.hid hj
              replace KK := KK.thenN K1 (Nat.le_refl _)
              clear h7 hi hV fv K1
              subst he
              go_wp2
              go_ret
              exact fin.out _ _ _ rfl hj.out KK
set_option maxHeartbeats 400000 in
theorem ref_CheckChance_any (x : Chance) (w : World) :
    Calls Tryz.prog 92 #[.agg #[.int .i64 x.least, .int .i64 x.most, .int .i64 x.all]] w fun e w' => e = .returned (.int .i64 (chanceErr x)) ∧ Kp w.heap.size none w w' := by
  have hb := Blk.new w 34 #[.int .i64 x.least, .int .i64 x.most, .int .i64 x.all]
  have KK := Kp.new w (.cells #[.int .i64 x.least, .int .i64 x.most, .int .i64 x.all] 34)
  have fin : ∀ (e : Ending) (w' : World) (n : Int), e = .returned (.int .i64 n) → n = chanceErr x → Kp w.heap.size none w w' → e = .returned (.int .i64 (chanceErr x)) ∧ Kp w.heap.size none w w' := fun e w' n h1 h2 h3 => ⟨h2 ▸ h1, h3⟩
  replace fin := Lib.hid fin
  go_enter Tryz.func92, Tryz.ntmps92
  rcases (show (x.least < 0 ∨ x.most < x.least ∨ x.all < x.most) ∨ (¬ x.least < 0 ∧ ¬ x.most < x.least ∧ ¬ x.all < x.most) by omega) with hh | ⟨h1, h2, h3⟩
  · rcases hh with h1 | h1 | h1
    · go_wp2
      go_ret
      refine fin.out _ _ _ rfl ?_ (Kp.new _ _)
      unfold chanceErr
      rw [if_pos (by omega)]
    · by_cases h2 : x.least < 0
      · go_wp2
        go_ret
        refine fin.out _ _ _ rfl ?_ (Kp.new _ _)
        unfold chanceErr
        rw [if_pos (by omega)]
      · go_wp2
        go_ret
        refine fin.out _ _ _ rfl ?_ (Kp.new _ _)
        unfold chanceErr
        rw [if_pos (by omega)]
    · by_cases h2 : x.least < 0
      · go_wp2
        go_ret
        refine fin.out _ _ _ rfl ?_ (Kp.new _ _)
        unfold chanceErr
        rw [if_pos (by omega)]
      · by_cases h3 : x.most < x.least
        · go_wp2
          go_ret
          refine fin.out _ _ _ rfl ?_ (Kp.new _ _)
          unfold chanceErr
          rw [if_pos (by omega)]
        · go_wp2
          go_ret
          refine fin.out _ _ _ rfl ?_ (Kp.new _ _)
          unfold chanceErr
          rw [if_pos (by omega)]
  · go_wp2_with fail
    refine (bolideref09_between_any _ _ _ _).mono ?_
    rintro e w1 ⟨rfl, k1⟩
    replace KK := KK.thenN k1 (Nat.le_refl _)
    cases hb1 : bt x.all 1 1125899906842624
    · have hb2 := Lib.hid hb1
      clear hb1
      go_wp2
      go_ret
      refine fin.out _ _ _ rfl ?_ KK
      have := hb2.out
      simp only [bt, Bool.and_eq_false_iff, decide_eq_false_iff_not] at this
      unfold chanceErr
      rw [if_pos (by omega)]
    · have hb2 := Lib.hid hb1
      clear hb1
      go_wp2
      go_ret
      refine fin.out _ _ _ rfl ?_ KK
      have := hb2.out
      simp only [bt, Bool.and_eq_true, decide_eq_true_eq] at this
      unfold chanceErr
      rw [if_neg (by omega)]
end Go.Proofs.YtogpgnljomchcaaGreat
