/- Which councils are valid; the level of a chance; whether weights suffice: the program. -/
import Derived.Test.YtogpgnljomchcaaCo2
namespace Go.Proofs.Ytogpgnljomchcaa
open Go.RowKit

def CkAt {α : Type} (f : Int → List α → Int) (V : Int) (xs : List α) (w : World) (v l : Value) (wr : World) : Prop := ∃ (i : Nat) (last : Int), v = .int .i64 i ∧ l = .int .i64 last ∧ i ≤ xs.length ∧ f last (xs.drop i) = V ∧ Kp w.heap.size none w wr
theorem chkM_drop (last : Int) (ms : List Member) (i : Nat) (h : i < ms.length) : chkMembers last (ms.drop i) = if ms[i].id ≤ last then 11 else if ms[i].weight < 1 ∨ 1099511627776 < ms[i].weight then 2 else chkMembers ms[i].id (ms.drop (i + 1)) := by
  rw [List.drop_eq_getElem_cons h]; rfl
theorem chkL_drop (last : Int) (ms : List LawC) (i : Nat) (h : i < ms.length) : chkLaws last (ms.drop i) = if lawErr ms[i] last = 0 then chkLaws ms[i].act (ms.drop (i + 1)) else lawErr ms[i] last := by
  rw [List.drop_eq_getElem_cons h]; rfl
theorem chkV_drop (last : Int) (ms : List Int) (i : Nat) (h : i < ms.length) : chkLevels last (ms.drop i) = if ms[i] ≤ last then 11 else if 1000000000 < ms[i] then 2 else chkLevels ms[i] (ms.drop (i + 1)) := by
  rw [List.drop_eq_getElem_cons h]; rfl
theorem bt_true {n lo hi : Int} (h : bt n lo hi = true) : lo ≤ n ∧ n ≤ hi := by simpa [bt] using h
theorem bt_false {n lo hi : Int} (h : bt n lo hi = false) : n < lo ∨ hi < n := by
  simp only [bt, Bool.and_eq_false_iff, decide_eq_false_iff_not] at h; omega
theorem checkC_m {c : Council} (h0 : c.members.length ≠ 0) (h1 : ¬ 64 < c.members.length) (h : chkMembers 0 c.members ≠ 0) : checkC c = chkMembers 0 c.members := by
  unfold checkC
  rw [if_neg h0, if_neg h1, if_pos h]
theorem checkC_l {c : Council} (h0 : c.members.length ≠ 0) (h1 : ¬ 64 < c.members.length) (h : chkMembers 0 c.members = 0) (h2 : ¬ 16 < c.laws.length) (h3 : chkLaws 0 c.laws ≠ 0) : checkC c = chkLaws 0 c.laws := by
  unfold checkC
  rw [if_neg h0, if_neg h1, if_neg (by simpa using h), if_neg h2, if_pos h3]
theorem checkC_v {c : Council} (h0 : c.members.length ≠ 0) (h1 : ¬ 64 < c.members.length) (h : chkMembers 0 c.members = 0) (h2 : ¬ 16 < c.laws.length) (h3 : chkLaws 0 c.laws = 0) (h4 : ¬ 8 < c.levels.length) : checkC c = chkLevels 0 c.levels := by
  unfold checkC
  rw [if_neg h0, if_neg h1, if_neg (by simpa using h), if_neg h2, if_neg (by simpa using h3), if_neg h4]

set_option maxHeartbeats 2000000 in
theorem council_Check_any (B : Nat) (V : CV) (c : Council) (w : World) (h : CAt B w V c) :
    Calls Try.prog 25 #[.agg #[.slice V.am c.members.length V.cm, .slice V.al c.laws.length V.cl, .slice V.av c.levels.length V.cv]] w fun e w' => e = .returned (.int .i64 (checkC c)) ∧ Kp w.heap.size none w w' := by
  obtain ⟨am, cm, al, cl, av, cv⟩ := V
  have KK := Kp.new w (.cells #[.slice am c.members.length cm, .slice al c.laws.length cl, .slice av c.levels.length cv] 26)
  have hA := Blk.new w 26 #[.slice am c.members.length cm, .slice al c.laws.length cl, .slice av c.levels.length cv]
  have fin : ∀ (e : Ending) (w' : World) (n : Int), e = .returned (.int .i64 n) → n = checkC c → Kp w.heap.size none w w' → e = .returned (.int .i64 (checkC c)) ∧ Kp w.heap.size none w w' := fun e w' n h1 h2 h3 => ⟨h2 ▸ h1, h3⟩
  replace fin := Lib.hid fin
  have hms := h.ms
  have hls := h.ls
  have hvs := h.vs
  have hM : Rd none _ 2 encMember am c.members.length c.members := (h.kpN KK).m.rdN
  have hL : Rd none _ 5 encLaw al c.laws.length c.laws := (h.kpN KK).l.rdN
  have hV : Rd none _ 1 encI av c.levels.length c.levels := (h.kpN KK).v.rdN
  clear h
  go_enter Try.func25, Try.ntmps25
  by_cases h0 : c.members.length = 0
  · have h0' : (c.members.length : Int) = 0 := by omega
    go_wp2
    go_ret
    exact fin.out _ _ _ rfl (by unfold checkC; rw [if_pos h0]) (Kp.new _ _)
  have h0' : ¬ (c.members.length : Int) = 0 := by omega
  by_cases h1 : 64 < c.members.length
  · have h1' : 64 < (c.members.length : Int) := by omega
    go_wp2
    go_ret
    exact fin.out _ _ _ rfl (by unfold checkC; rw [if_neg h0, if_pos h1]) KK
  have h1' : ¬ 64 < (c.members.length : Int) := by omega
  go_wp2_with fail
  generalize w.alloc (.cells #[.slice am c.members.length cm, .slice al c.laws.length cl, .slice av c.levels.length cv] 26) = w0 at hA hM hL hV KK ⊢
  obtain ⟨V1, hV1⟩ : ∃ V1, V1 = chkMembers 0 c.members := ⟨_, rfl⟩
  have fm := checkC_m h0 h1
  have fl := checkC_l h0 h1
  have fv := checkC_v h0 h1
  rw [← hV1] at fm fl fv
  replace hV1 := Lib.hid hV1
  replace fm := Lib.hid fm
  replace fl := Lib.hid fl
  replace fv := Lib.hid fv
  replace h0 := Lib.hid h0
  replace h1 := Lib.hid h1
  go_loopw [24, 3] (fun v n wr => CkAt chkMembers V1 c.members w0 v n wr) (fun v _ _ => c.members.length - (intOf v).toNat)
  case atStart => exact ⟨0, 0, rfl, rfl, by omega, by simpa using hV1.out.symm, Kp.refl _ _ _⟩
  case round =>
    obtain ⟨i, last, rfl, rfl, hi, hj, K1⟩ := hrel
    by_cases h7 : i < c.members.length
    · obtain ⟨b, o, rfl, hb, -, hcc⟩ := (hM.kpN K1).at_ (by omega)
      have c0 : wr.cell? ⟨b, o + i * 2, none⟩ = some (.int .i64 c.members[i].id) := hcc i h7 0 _ rfl
      have c1 : wr.cell? ⟨b, o + i * 2 + 1, none⟩ = some (.int .i64 c.members[i].weight) := by rw [Nat.add_assoc]; exact hcc i h7 1 _ rfl
      have hi' : (i : Int) < (c.members.length : Int) := by omega
      rw [chkM_drop last c.members i h7] at hj
      clear hcc hM hL hV
      generalize c.members[i] = x at c0 c1 hj
      have K2 := (KK.thenN K1 (Nat.le_refl _)).alloc (by have := KK.size; have := K1.size; omega) (.cells #[.int .i64 x.id, .int .i64 x.weight] 87)
      have B2 := Blk.new wr 87 #[.int .i64 x.id, .int .i64 x.weight]
      have K3 := K1.alloc (by have := K1.size; omega) (.cells #[.int .i64 x.id, .int .i64 x.weight] 87)
      clear K1 hi
      replace h7 := Lib.hid h7
      by_cases hq : x.id ≤ last
      · rw [if_pos hq] at hj
        have hj := Lib.hid (show V1 = 11 from hj.symm)
        go_wp2
        go_ret
        exact fin.out _ _ _ rfl (hj.out ▸ (fm.out (by rw [hj.out]; decide)).symm) K2
      · rw [if_neg hq] at hj
        replace hj := Lib.hid hj
        go_wp2_with fail
        refine (council_within_any _ _ _ _).mono ?_
        rintro e w2 ⟨rfl, k2⟩
        replace B2 := B2.kpN k2
        have cb := fun i => B2.cell i
        replace K2 := K2.thenN k2 (Nat.le_refl _)
        replace K3 := K3.thenN k2 (Nat.le_refl _)
        cases hbt : bt x.weight 1 1099511627776
        · have hj := Lib.hid (show V1 = 2 by have := hj.out; rw [if_pos (bt_false hbt)] at this; exact this.symm)
          go_wp2
          go_ret
          exact fin.out _ _ _ rfl (hj.out ▸ (fm.out (by rw [hj.out]; decide)).symm) K2
        · have hj := Lib.hid (show chkMembers x.id (c.members.drop (i + 1)) = V1 by have := hj.out; rw [if_neg (by have := bt_true hbt; omega)] at this; exact this)
          go_wp2
          go_roundw
          case rel => exact ⟨i + 1, x.id, rfl, rfl, h7.out, hj.out, K3⟩
          case measure => have := h7.out; simp [intOf]; omega
    · have he : i = c.members.length := by omega
      have hi' : ¬ (i : Int) < (c.members.length : Int) := by omega
      rw [he, List.drop_length] at hj
      have hj2 := Lib.hid (show V1 = 0 from hj.symm)
      replace hA := hA.kpN K1
      replace hL := hL.kpN K1
      replace hV := hV.kpN K1
      replace KK := KK.thenN K1 (Nat.le_refl _)
      have ca := fun i => hA.cell i
      have hm0 := Lib.hid (show chkMembers 0 c.members = 0 by rw [← hV1.out]; exact hj2.out)
      clear h7 hi hj hM fm hV1 K1
      subst he
      by_cases h16 : 16 < c.laws.length
      · have h16' : 16 < (c.laws.length : Int) := by omega
        have hz := Lib.hid (show 8 = checkC c by unfold checkC; rw [if_neg h0.out, if_neg h1.out, if_neg (by simpa using hm0.out), if_pos h16])
        go_wp2
        go_ret
        exact fin.out _ _ _ rfl hz.out KK
      have h16' : ¬ 16 < (c.laws.length : Int) := by omega
      go_wp2_with fail
      have fl := Lib.hid (fl.out hj2.out h16)
      have fv := Lib.hid (fv.out hj2.out h16)
      obtain ⟨V2, hV2⟩ : ∃ V2, V2 = chkLaws 0 c.laws := ⟨_, rfl⟩
      rw [← hV2] at fl fv
      replace hV2 := Lib.hid hV2
      replace h16 := Lib.hid h16
      clear hj2 ca
      rename World => w1
      go_loopw [48, 3] (fun v n w2 => CkAt chkLaws V2 c.laws w1 v n w2) (fun v _ _ => c.laws.length - (intOf v).toNat)
      case atStart => exact ⟨0, 0, rfl, rfl, by omega, by simpa using hV2.out.symm, Kp.refl _ _ _⟩
      case round =>
        obtain ⟨i, last, rfl, rfl, hi, hj, K1⟩ := hrel
        by_cases h7 : i < c.laws.length
        · obtain ⟨b, o, rfl, hb, -, hcc⟩ := (hL.kpN K1).at_ (by omega)
          have c0 : wr.cell? ⟨b, o + i * 5 + 0, none⟩ = some (.int .i64 c.laws[i].act) := by rw [Nat.add_assoc]; exact hcc i h7 0 _ rfl
          have c1 : wr.cell? ⟨b, o + i * 5 + 1, none⟩ = some (.int .i64 c.laws[i].level) := by rw [Nat.add_assoc]; exact hcc i h7 1 _ rfl
          have c2 : wr.cell? ⟨b, o + i * 5 + 2, none⟩ = some (.int .i64 c.laws[i].window) := by rw [Nat.add_assoc]; exact hcc i h7 2 _ rfl
          have c3 : wr.cell? ⟨b, o + i * 5 + 3, none⟩ = some (.int .i64 c.laws[i].quorum) := by rw [Nat.add_assoc]; exact hcc i h7 3 _ rfl
          have c4 : wr.cell? ⟨b, o + i * 5 + 4, none⟩ = some (.int .i64 c.laws[i].share) := by rw [Nat.add_assoc]; exact hcc i h7 4 _ rfl
          simp only [Nat.add_zero] at c0
          have hi' : (i : Int) < (c.laws.length : Int) := by omega
          rw [chkL_drop last c.laws i h7] at hj
          clear hcc hL hV
          generalize c.laws[i] = x at c0 c1 c2 c3 c4 hj
          have K2 := (KK.thenN K1 (Nat.le_refl _)).alloc (by have := KK.size; have := K1.size; omega) (.cells #[.int .i64 x.act, .int .i64 x.level, .int .i64 x.window, .int .i64 x.quorum, .int .i64 x.share] 61)
          have B2 := Blk.new wr 61 #[.int .i64 x.act, .int .i64 x.level, .int .i64 x.window, .int .i64 x.quorum, .int .i64 x.share]
          have K3 := K1.alloc (by have := K1.size; omega) (.cells #[.int .i64 x.act, .int .i64 x.level, .int .i64 x.window, .int .i64 x.quorum, .int .i64 x.share] 61)
          clear K1 hi
          replace h7 := Lib.hid h7
          have kz : lawErr x last ≠ 0 → lawErr x last = V2 := fun hz => by rw [if_neg hz] at hj; exact hj
          have bad : lawErr x last ≠ 0 → lawErr x last = checkC c := fun hz => by
            have := kz hz
            rw [this] at hz ⊢
            exact (fl.out hz).symm
          have good : lawErr x last = 0 → chkLaws x.act (c.laws.drop (i + 1)) = V2 := fun hz => by rw [if_pos hz] at hj; exact hj
          replace bad := Lib.hid bad
          replace good := Lib.hid good
          clear hj kz
          by_cases hq : x.act ≤ last
          · have hz := Lib.hid (show 11 = checkC c by
              have e : lawErr x last = 11 := by unfold lawErr; rw [if_pos hq]
              rw [← bad.out (by rw [e]; decide), e])
            go_wp2
            go_ret
            exact fin.out _ _ _ rfl hz.out K2
          · have e2 : lawBad x → 2 = checkC c := fun hbad => by
              have e : lawErr x last = 2 := by unfold lawErr; rw [if_neg hq, if_pos hbad]
              rw [← bad.out (by rw [e]; decide), e]
            have e0 : ¬ lawBad x → chkLaws x.act (c.laws.drop (i + 1)) = V2 := fun hbad => good.out (by unfold lawErr; rw [if_neg hq, if_neg hbad])
            unfold lawBad at e2 e0
            replace e2 := Lib.hid e2
            replace e0 := Lib.hid e0
            by_cases hl0 : x.level < 0
            · have hz := Lib.hid (e2.out (.inl hl0))
              go_wp2
              go_ret
              exact fin.out _ _ _ rfl hz.out K2
            by_cases hl8 : 8 < x.level
            · have hz := Lib.hid (e2.out (.inr (.inl hl8)))
              go_wp2
              go_ret
              exact fin.out _ _ _ rfl hz.out K2
            clear bad good
            go_wp2_with fail
            refine (council_within_any _ _ _ _).mono ?_
            rintro e w2 ⟨rfl, k2⟩
            replace B2 := B2.kpN k2
            have cb := fun i => B2.cell i
            replace K2 := K2.thenN k2 (Nat.le_refl _)
            replace K3 := K3.thenN k2 (Nat.le_refl _)
            clear k2
            cases hb1 : bt x.window 0 1073741824
            · have hz := Lib.hid (e2.out (by have := bt_false hb1; omega))
              go_wp2
              go_ret
              exact fin.out _ _ _ rfl hz.out K2
            replace hb1 := Lib.hid (bt_true hb1)
            go_wp2_with fail
            refine (council_within_any _ _ _ _).mono ?_
            rintro e w2 ⟨rfl, k2⟩
            replace B2 := B2.kpN k2
            have cb := fun i => B2.cell i
            replace K2 := K2.thenN k2 (Nat.le_refl _)
            replace K3 := K3.thenN k2 (Nat.le_refl _)
            clear k2
            cases hb2 : bt x.quorum 0 1000
            · have hz := Lib.hid (e2.out (by have := bt_false hb2; omega))
              go_wp2
              go_ret
              exact fin.out _ _ _ rfl hz.out K2
            replace hb2 := Lib.hid (bt_true hb2)
            go_wp2_with fail
            refine (council_within_any _ _ _ _).mono ?_
            rintro e w2 ⟨rfl, k2⟩
            replace B2 := B2.kpN k2
            have cb := fun i => B2.cell i
            replace K2 := K2.thenN k2 (Nat.le_refl _)
            replace K3 := K3.thenN k2 (Nat.le_refl _)
            clear k2
            cases hb3 : bt x.share 0 1000
            · have hz := Lib.hid (e2.out (by have := bt_false hb3; omega))
              go_wp2
              go_ret
              exact fin.out _ _ _ rfl hz.out K2
            replace hb3 := Lib.hid (bt_true hb3)
            have hg := Lib.hid (e0.out (by have := hb1.out; have := hb2.out; have := hb3.out; omega))
            go_wp2
            go_roundw
            case rel => exact ⟨i + 1, x.act, rfl, rfl, h7.out, hg.out, K3⟩
            case measure => have := h7.out; simp [intOf]; omega
        · have he : i = c.laws.length := by omega
          have hi' : ¬ (i : Int) < (c.laws.length : Int) := by omega
          rw [he, List.drop_length] at hj
          have hj2 := Lib.hid (show V2 = 0 from hj.symm)
          replace hA := hA.kpN K1
          replace hV := hV.kpN K1
          replace KK := KK.thenN K1 (Nat.le_refl _)
          have ca := fun i => hA.cell i
          have hl0 := Lib.hid (show chkLaws 0 c.laws = 0 by rw [← hV2.out]; exact hj2.out)
          clear h7 hi hj hL fl hV2 K1
          subst he
          by_cases h8 : 8 < c.levels.length
          · have h8' : 8 < (c.levels.length : Int) := by omega
            have hz := Lib.hid (show 8 = checkC c by unfold checkC; rw [if_neg h0.out, if_neg h1.out, if_neg (by simpa using hm0.out), if_neg h16.out, if_neg (by simpa using hl0.out), if_pos h8])
            go_wp2
            go_ret
            exact fin.out _ _ _ rfl hz.out KK
          have h8' : ¬ 8 < (c.levels.length : Int) := by omega
          go_wp2_with fail
          have fv := Lib.hid (fv.out hj2.out h8)
          rename World => w1
          go_loopw [94, 8] (fun v n w2 => CkAt chkLevels (checkC c) c.levels w1 v n w2) (fun v _ _ => c.levels.length - (intOf v).toNat)
          case atStart => exact ⟨0, 0, rfl, rfl, by omega, by simpa using fv.out.symm, Kp.refl _ _ _⟩
          case round =>
            obtain ⟨i, last, rfl, rfl, hi, hj, K1⟩ := hrel
            by_cases h7 : i < c.levels.length
            · obtain ⟨b, o, rfl, hb, -, hcc⟩ := (hV.kpN K1).at_ (by omega)
              have c0 := Rd.cell1 (f := fun y => .int .i64 y) (fun _ => rfl) hcc i h7
              have hi' : (i : Int) < (c.levels.length : Int) := by omega
              rw [chkV_drop last c.levels i h7] at hj
              clear hcc hV
              generalize c.levels[i] = x at c0 hj
              have K2 := KK.thenN K1 (Nat.le_refl _)
              clear hi
              replace h7 := Lib.hid h7
              by_cases hq : x ≤ last
              · rw [if_pos hq] at hj
                replace hj := Lib.hid hj
                go_wp2
                go_ret
                exact fin.out _ _ _ rfl hj.out K2
              · rw [if_neg hq] at hj
                by_cases hq2 : 1000000000 < x
                · rw [if_pos hq2] at hj
                  replace hj := Lib.hid hj
                  go_wp2
                  go_ret
                  exact fin.out _ _ _ rfl hj.out K2
                · rw [if_neg hq2] at hj
                  replace hj := Lib.hid hj
                  go_wp2
                  go_roundw
                  case rel => exact ⟨i + 1, x, rfl, rfl, h7.out, hj.out, K1⟩
                  case measure => have := h7.out; simp [intOf]; omega
            · have he : i = c.levels.length := by omega
              have hi' : ¬ (i : Int) < (c.levels.length : Int) := by omega
              rw [he, List.drop_length] at hj
              replace hj := Lib.hid hj
              replace KK := KK.thenN K1 (Nat.le_refl _)
              clear h7 hi hV fv K1
              subst he
              go_wp2
              go_ret
              exact fin.out _ _ _ rfl hj.out KK

set_option maxHeartbeats 800000 in
theorem council_Level_any (x : Chance) (B : Nat) (V : CV) (c : Council) (w : World) (h : CAt B w V c) :
    Calls Try.prog 23 #[.agg #[.slice V.am c.members.length V.cm, .slice V.al c.laws.length V.cl, .slice V.av c.levels.length V.cv], .agg #[.int .i64 x.least, .int .i64 x.most, .int .i64 x.all]] w fun e w' => e = .returned (.int .i64 (levelI c x)) ∧ Kp w.heap.size none w w' := by
  have hA := (Blk.new w 26 #[.slice V.am c.members.length V.cm, .slice V.al c.laws.length V.cl, .slice V.av c.levels.length V.cv]).alloc (.cells #[.int .i64 x.least, .int .i64 x.most, .int .i64 x.all] 29)
  have hB := Blk.newAt (w.alloc (.cells #[.slice V.am c.members.length V.cm, .slice V.al c.laws.length V.cl, .slice V.av c.levels.length V.cv] 26)) 29 #[.int .i64 x.least, .int .i64 x.most, .int .i64 x.all] (n := w.heap.size + 1) (by simp)
  have KK := Kp.new2 w (.cells #[.slice V.am c.members.length V.cm, .slice V.al c.laws.length V.cl, .slice V.av c.levels.length V.cv] 26) (.cells #[.int .i64 x.least, .int .i64 x.most, .int .i64 x.all] 29)
  obtain ⟨R, hR⟩ : ∃ R, R = levelI c x := ⟨_, rfl⟩
  rw [← hR]
  unfold levelI at hR
  replace hR := Lib.hid hR
  go_enter Try.func23, Try.ntmps23
  go_wp2_with fail
  generalize (w.alloc (.cells #[.slice V.am c.members.length V.cm, .slice V.al c.laws.length V.cl, .slice V.av c.levels.length V.cv] 26)).alloc (.cells #[.int .i64 x.least, .int .i64 x.most, .int .i64 x.all] 29) = w0 at hA hB KK ⊢
  replace h := h.kpN KK
  refine (council_Check_any B V c _ h).mono ?_
  rintro e w1 ⟨rfl, k1⟩
  replace hA := hA.kpN k1
  replace hB := hB.kpN k1
  replace h := h.kpN k1
  replace KK := KK.thenN k1 (Nat.le_refl _)
  have ca := fun i => hA.cell i
  have cb := fun i => hB.cell i
  by_cases hc : checkC c = 0
  · rw [hc]
    have hok := Lib.hid (councilOk_of hc)
    go_wp2_with fail
    refine (council_CheckChance_any x _).mono ?_
    rintro e w2 ⟨rfl, k2⟩
    replace hA := hA.kpN k2
    replace hB := hB.kpN k2
    replace h := h.kpN k2
    replace KK := KK.thenN k2 (Nat.le_refl _)
    have ca := fun i => hA.cell i
    have cb := fun i => hB.cell i
    by_cases hx : chanceErr x = 0
    · rw [hx]
      have hR2 := Lib.hid (show (levelOf c x : Int) = R by rw [hR.out, if_pos ⟨hc, hx⟩])
      have hx2 := Lib.hid hx
      clear hx hc
      go_wp2_with fail
      refine (council_level_any x B V c _ h hok.out.vlen hok.out.lev hx2.out).mono ?_
      rintro e w3 ⟨rfl, k3⟩
      replace KK := KK.thenN k3 (Nat.le_refl _)
      rw [hR2.out]
      go_wp2
      go_ret
      exact ⟨rfl, KK⟩
    · have hR2 := Lib.hid (show -1 = R by rw [hR.out, if_neg (fun q => hx q.2)])
      have hx3 : chanceErr x = 3 := by unfold chanceErr at hx ⊢; split at hx <;> simp_all
      rw [hx3]
      clear hx hc hx3
      go_wp2
      go_ret
      exact ⟨ret_int hR2.out, KK⟩
  · have hR2 := Lib.hid (show -1 = R by rw [hR.out, if_neg (fun q => hc q.1)])
    generalize checkC c = n at hc ⊢
    go_wp2
    go_ret
    exact ⟨ret_int hR2.out, KK⟩
end Go.Proofs.Ytogpgnljomchcaa
