/- A council as a value; what the program checks and reckons of it. -/
import Derived.Test.YtogpgnljomchcaaFn
namespace Go.Proofs.Ytogpgnljomchcaa
open Go.RowKit

structure CV where
  am : Option Addr
  cm : Nat
  al : Option Addr
  cl : Nat
  av : Option Addr
  cv : Nat
/-- a council, its slices below B -/
structure CAt (B : Nat) (w : World) (V : CV) (c : Council) : Prop where
  m : Lo B w 2 encMember V.am c.members.length c.members
  l : Lo B w 5 encLaw V.al c.laws.length c.laws
  v : Lo B w 1 encI V.av c.levels.length c.levels
  ms : c.members.length ≤ 17592186044416
  ls : c.laws.length ≤ 17592186044416
  vs : c.levels.length ≤ 17592186044416
section
variable {B B' : Nat} {w w' : World} {V : CV} {c : Council}
theorem CAt.kp (h : CAt B w V c) (hk : Kp B none w w') : CAt B w' V c := ⟨h.m.kp hk, h.l.kp hk, h.v.kp hk, h.ms, h.ls, h.vs⟩
theorem CAt.kpN (h : CAt B w V c) (hk : Kp w.heap.size none w w') : CAt B w' V c := ⟨h.m.kpN hk, h.l.kpN hk, h.v.kpN hk, h.ms, h.ls, h.vs⟩
theorem CAt.wide (h : CAt B w V c) (hB : B ≤ B') : CAt B' w V c := ⟨h.m.wide hB, h.l.wide hB, h.v.wide hB, h.ms, h.ls, h.vs⟩
end

set_option maxHeartbeats 400000 in
theorem containsMotion_any (g : Nat) (lb : Array Value) (p : (Value × Motion) → Bool) (eg : ∀ args w, (callFunc g args).run Try.prog w = .ok (.enter g args) w) (A : Option Addr) (cap : Nat) (xs : List (Value × Motion)) (w : World)
    (hp : PredK g lb encVM p w) (hr : Rd none w 8 encVM A xs.length xs) (hn : xs.length ≤ 17592186044416) :
    Calls Try.prog 102 #[.slice A xs.length cap, .func (.func g) #[] lb] w fun e w' => e = .returned (.bool (xs.any p)) ∧ Kp w.heap.size none w w' := by
  have c := indexMotion_any g lb p eg A cap xs w hp hr hn
  rw [← idx_any p xs]
  generalize idxI p xs 0 = r at c ⊢
  clear hp hr
  go_enter Try.func102, Try.ntmps102
  go_wp2_with fail
  refine c.mono ?_
  rintro e w1 ⟨rfl, k1⟩
  go_wp2
  go_ret
  exact ⟨rfl, k1⟩
set_option maxHeartbeats 400000 in
theorem indexInt_any (x : Int) (A : Option Addr) (cap : Nat) (xs : List Int) (w : World) (hr : Rd none w 1 encI A xs.length xs) (hn : xs.length ≤ 17592186044416) :
    Calls Try.prog 119 #[.slice A xs.length cap, .int .i64 x] w fun e w' => e = .returned (.int .i64 (idxI (fun y => x == y) xs 0)) ∧ Kp w.heap.size none w w' := by
  obtain ⟨V, hV⟩ : ∃ V, V = idxI (fun y => x == y) xs 0 := ⟨_, rfl⟩
  rw [← hV]
  go_enter Try.func119, Try.ntmps119
  go_wp2_with fail
  go_loopw [8] (fun v wr => IdxAt V (fun y => x == y) xs w v wr) (fun v _ => xs.length - (intOf v).toNat)
  case atStart => exact ⟨0, rfl, by omega, by rw [hV]; rfl, Kp.refl _ _ _⟩
  case round =>
    obtain ⟨i, rfl, hi, hj, KK⟩ := hrel
    by_cases h7 : i < xs.length
    · obtain ⟨b, o, rfl, hb, -, hc⟩ := (hr.kpN KK).at_ (by omega)
      have c0 := Rd.cell1 (f := fun y => .int .i64 y) (fun _ => rfl) hc i h7
      have hi' : (i : Int) < (xs.length : Int) := by omega
      rw [idx_drop _ xs i h7] at hj
      replace hr := Lib.hid hr
      clear hc
      generalize xs[i] = y at c0 hj
      by_cases hq : x = y
      · rw [if_pos (by simpa using hq)] at hj
        replace hj := Lib.hid hj
        go_wp2
        go_ret
        exact ⟨ret_int hj.out, KK⟩
      · rw [if_neg (by simpa using hq)] at hj
        replace hj := Lib.hid hj
        replace h7 := Lib.hid h7
        clear hi
        go_wp2
        go_roundw
        case rel => exact ⟨i + 1, rfl, h7.out, hj.out, KK⟩
        case measure => have := h7.out; simp [intOf]; omega
    · have he : i = xs.length := by omega
      have hi' : ¬ (i : Int) < (xs.length : Int) := by omega
      rw [he, List.drop_length] at hj
      replace hj := Lib.hid hj
      clear h7 hi
      subst he
      go_wp2
      go_ret
      exact ⟨ret_int (hj.out.trans hV), KK⟩
set_option maxHeartbeats 400000 in
theorem containsInt_any (x : Int) (A : Option Addr) (cap : Nat) (xs : List Int) (w : World) (hr : Rd none w 1 encI A xs.length xs) (hn : xs.length ≤ 17592186044416) :
    Calls Try.prog 106 #[.slice A xs.length cap, .int .i64 x] w fun e w' => e = .returned (.bool (xs.any fun y => x == y)) ∧ Kp w.heap.size none w w' := by
  have c := indexInt_any x A cap xs w hr hn
  rw [← idx_any (fun y => x == y) xs]
  generalize idxI (fun y => x == y) xs 0 = r at c ⊢
  clear hr
  go_enter Try.func106, Try.ntmps106
  go_wp2_with fail
  refine c.mono ?_
  rintro e w1 ⟨rfl, k1⟩
  go_wp2
  go_ret
  exact ⟨rfl, k1⟩

set_option maxHeartbeats 400000 in
theorem council_CheckChance_any (x : Chance) (w : World) :
    Calls Try.prog 27 #[.agg #[.int .i64 x.least, .int .i64 x.most, .int .i64 x.all]] w fun e w' => e = .returned (.int .i64 (chanceErr x)) ∧ Kp w.heap.size none w w' := by
  have hb := Blk.new w 29 #[.int .i64 x.least, .int .i64 x.most, .int .i64 x.all]
  have KK := Kp.new w (.cells #[.int .i64 x.least, .int .i64 x.most, .int .i64 x.all] 29)
  have fin : ∀ (e : Ending) (w' : World) (n : Int), e = .returned (.int .i64 n) → n = chanceErr x → Kp w.heap.size none w w' → e = .returned (.int .i64 (chanceErr x)) ∧ Kp w.heap.size none w w' := fun e w' n h1 h2 h3 => ⟨h2 ▸ h1, h3⟩
  replace fin := Lib.hid fin
  go_enter Try.func27, Try.ntmps27
  rcases (show (x.least < 0 ∨ x.most < x.least ∨ x.all < x.most) ∨ (¬ x.least < 0 ∧ ¬ x.most < x.least ∧ ¬ x.all < x.most) by omega) with hh | ⟨h1, h2, h3⟩
  · rcases hh with h1 | h1 | h1
    · go_wp2
      go_ret
      refine fin.out _ _ _ rfl ?_ (Kp.new _ _)
      unfold chanceErr
      rw [if_pos (by omega)]
    · by_cases h2 : x.least < 0
      · go_wp2
        go_ret
        refine fin.out _ _ _ rfl ?_ (Kp.new _ _)
        unfold chanceErr
        rw [if_pos (by omega)]
      · go_wp2
        go_ret
        refine fin.out _ _ _ rfl ?_ (Kp.new _ _)
        unfold chanceErr
        rw [if_pos (by omega)]
    · by_cases h2 : x.least < 0
      · go_wp2
        go_ret
        refine fin.out _ _ _ rfl ?_ (Kp.new _ _)
        unfold chanceErr
        rw [if_pos (by omega)]
      · by_cases h3 : x.most < x.least
        · go_wp2
          go_ret
          refine fin.out _ _ _ rfl ?_ (Kp.new _ _)
          unfold chanceErr
          rw [if_pos (by omega)]
        · go_wp2
          go_ret
          refine fin.out _ _ _ rfl ?_ (Kp.new _ _)
          unfold chanceErr
          rw [if_pos (by omega)]
  · go_wp2_with fail
    refine (council_within_any _ _ _ _).mono ?_
    rintro e w1 ⟨rfl, k1⟩
    replace KK := KK.thenN k1 (Nat.le_refl _)
    cases hb1 : bt x.all 1 1125899906842624
    · have hb2 := Lib.hid hb1
      clear hb1
      go_wp2
      go_ret
      refine fin.out _ _ _ rfl ?_ KK
      have := hb2.out
      simp only [bt, Bool.and_eq_false_iff, decide_eq_false_iff_not] at this
      unfold chanceErr
      rw [if_pos (by omega)]
    · have hb2 := Lib.hid hb1
      clear hb1
      go_wp2
      go_ret
      refine fin.out _ _ _ rfl ?_ KK
      have := hb2.out
      simp only [bt, Bool.and_eq_true, decide_eq_true_eq] at this
      unfold chanceErr
      rw [if_neg (by omega)]
set_option maxHeartbeats 400000 in
theorem council_law_any (act : Int) (B : Nat) (V : CV) (c : Council) (w : World) (h : CAt B w V c) :
    Calls Try.prog 56 #[.agg #[.slice V.am c.members.length V.cm, .slice V.al c.laws.length V.cl, .slice V.av c.levels.length V.cv], .int .i64 act] w fun e w' => e = .returned (.tuple #[.agg #[.int .i64 (lawD c act).act, .int .i64 (lawD c act).level, .int .i64 (lawD c act).window, .int .i64 (lawD c act).quorum, .int .i64 (lawD c act).share], .bool (lawOf c act).isSome]) ∧ Kp w.heap.size none w w' := by
  have hA := ((Blk.new w 26 #[.slice V.am c.members.length V.cm, .slice V.al c.laws.length V.cl, .slice V.av c.levels.length V.cv]).alloc (.cells #[.int .i64 act] 3)).alloc (.cells #[.int .i64 0, .int .i64 0, .int .i64 0, .int .i64 0, .int .i64 0] 61)
  have hB := (Blk.newAt (w.alloc (.cells #[.slice V.am c.members.length V.cm, .slice V.al c.laws.length V.cl, .slice V.av c.levels.length V.cv] 26)) 3 #[.int .i64 act] (n := w.heap.size + 1) (by simp)).alloc (.cells #[.int .i64 0, .int .i64 0, .int .i64 0, .int .i64 0, .int .i64 0] 61)
  have hC := Blk.newAt ((w.alloc (.cells #[.slice V.am c.members.length V.cm, .slice V.al c.laws.length V.cl, .slice V.av c.levels.length V.cv] 26)).alloc (.cells #[.int .i64 act] 3)) 61 #[.int .i64 0, .int .i64 0, .int .i64 0, .int .i64 0, .int .i64 0] (n := w.heap.size + 1 + 1) (by simp)
  have KK := (Kp.new2 w (.cells #[.slice V.am c.members.length V.cm, .slice V.al c.laws.length V.cl, .slice V.av c.levels.length V.cv] 26) (.cells #[.int .i64 act] 3)).alloc (by simp; omega) (.cells #[.int .i64 0, .int .i64 0, .int .i64 0, .int .i64 0, .int .i64 0] 61)
  have eg : ∀ args w, (callFunc 75 args).run Try.prog w = .ok (.enter 75 args) w := enters_of Try.func75 (by kernel_rfl) rfl
  obtain ⟨D, hD⟩ : ∃ D, D = lawD c act := ⟨_, rfl⟩
  obtain ⟨d, hd⟩ : ∃ d, d = (lawOf c act).isSome := ⟨_, rfl⟩
  rw [← hD, ← hd]
  replace hD := Lib.hid hD
  replace hd := Lib.hid hd
  go_enter Try.func56, Try.ntmps56
  go_wp2_with fail
  generalize hw0 : ((w.alloc (.cells #[.slice V.am c.members.length V.cm, .slice V.al c.laws.length V.cl, .slice V.av c.levels.length V.cv] 26)).alloc (.cells #[.int .i64 act] 3)).alloc (.cells #[.int .i64 0, .int .i64 0, .int .i64 0, .int .i64 0, .int .i64 0] 61) = w0 at hA hB hC KK ⊢
  clear hw0
  replace h := h.kpN KK
  refine (indexLaw_any 75 _ (fun x => x.act == act) eg V.al V.cl c.laws w0 (law1_pred _ _ _ (hB.cell 0)) h.l.rdN h.ls).mono ?_
  rintro e w1 ⟨rfl, k1⟩
  replace hA := hA.kpN k1
  replace hB := hB.kpN k1
  replace hC := hC.kpN k1
  replace h := h.kpN k1
  replace KK := KK.thenN k1 (Nat.le_refl _)
  clear k1
  have ca := fun i => hA.cell i
  have cc := fun i => hC.cell i
  have fc := fun i => hC.frozen i
  have hle : w.heap.size ≤ w.heap.size + 1 + 1 := by omega
  rcases idx_spec (fun x : LawC => x.act == act) c.laws 0 with ⟨h1, h2⟩ | ⟨i, hi, h1, h2, h3, -⟩
  · have e1 : D = zeroLaw := by rw [hD.out]; unfold lawD lawOf; rw [h2]; rfl
    have e2 : d = false := by rw [hd.out]; unfold lawOf; rw [h2]; rfl
    subst e1
    subst e2
    rw [h1]
    clear h1 h2 hD hd
    go_wp2
    refine bodyPost_ret (v := .tuple #[.agg #[.int .i64 zeroLaw.act, .int .i64 zeroLaw.level, .int .i64 zeroLaw.window, .int .i64 zeroLaw.quorum, .int .i64 zeroLaw.share], .bool false]) (by simp [results, Try.results56, go_sem, cc, zeroLaw]) rfl ⟨rfl, ?_⟩
    iterate 5 refine Kp.setNew ?_ hle _
    exact KK
  · have e1 : D = c.laws[i] := by rw [hD.out]; unfold lawD lawOf; rw [h2]; rfl
    have e2 : d = true := by rw [hd.out]; unfold lawOf; rw [h2]; rfl
    rw [h1]
    replace e1 := Lib.hid e1
    subst e2
    obtain ⟨b, o, hal, hbl, -, hc⟩ := h.l.rdN.at_ (by omega)
    have hi' : (i : Int) < (c.laws.length : Int) := by omega
    clear h1 h2 h3 hd hD
    have d0 : w1.cell? ⟨b, o + i * 5 + 0, none⟩ = some (.int .i64 c.laws[i].act) := by rw [Nat.add_assoc]; exact hc i hi 0 _ rfl
    have d1 : w1.cell? ⟨b, o + i * 5 + 1, none⟩ = some (.int .i64 c.laws[i].level) := by rw [Nat.add_assoc]; exact hc i hi 1 _ rfl
    have d2 : w1.cell? ⟨b, o + i * 5 + 2, none⟩ = some (.int .i64 c.laws[i].window) := by rw [Nat.add_assoc]; exact hc i hi 2 _ rfl
    have d3 : w1.cell? ⟨b, o + i * 5 + 3, none⟩ = some (.int .i64 c.laws[i].quorum) := by rw [Nat.add_assoc]; exact hc i hi 3 _ rfl
    have d4 : w1.cell? ⟨b, o + i * 5 + 4, none⟩ = some (.int .i64 c.laws[i].share) := by rw [Nat.add_assoc]; exact hc i hi 4 _ rfl
    rw [← e1.out] at d0 d1 d2 d3 d4
    clear e1
    simp only [Nat.add_zero] at d0
    simp only [Int.zero_add]
    clear hc
    go_wp2
    refine bodyPost_ret (v := .tuple #[.agg #[.int .i64 D.act, .int .i64 D.level, .int .i64 D.window, .int .i64 D.quorum, .int .i64 D.share], .bool true]) (by simp [results, Try.results56, go_sem, cc]) rfl ⟨rfl, ?_⟩
    iterate 5 refine Kp.setNew ?_ hle _
    exact KK
end Go.Proofs.Ytogpgnljomchcaa
