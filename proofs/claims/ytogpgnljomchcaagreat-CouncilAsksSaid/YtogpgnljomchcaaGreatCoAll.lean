/- A council as a value; what the program checks and reckons of it. The sum of the weights; whether a motion has the votes; the level of a chance: the program. Which councils are valid; the level of a chance; whether weights suffice: the program. Whether weights suffice: the program. Small functions of a house. -/
import Derived.Test.YtogpgnljomchcaaGreatFn
namespace Go.Proofs.YtogpgnljomchcaaGreat
open Go.RowKit

structure CV where
  am : Option Addr
  cm : Nat
  al : Option Addr
  cl : Nat
  av : Option Addr
  cv : Nat
/-- a council, its slices below B -/
structure CAt (B : Nat) (w : World) (V : CV) (c : Council) : Prop where
  m : Lo B w 2 encMember V.am c.members.length c.members
  l : Lo B w 5 encLaw V.al c.laws.length c.laws
  v : Lo B w 1 encI V.av c.levels.length c.levels
  ms : c.members.length ≤ 17592186044416
  ls : c.laws.length ≤ 17592186044416
  vs : c.levels.length ≤ 17592186044416
section
variable {B B' : Nat} {w w' : World} {V : CV} {c : Council}
theorem CAt.kp (h : CAt B w V c) (hk : Kp B none w w') : CAt B w' V c := ⟨h.m.kp hk, h.l.kp hk, h.v.kp hk, h.ms, h.ls, h.vs⟩
theorem CAt.kpN (h : CAt B w V c) (hk : Kp w.heap.size none w w') : CAt B w' V c := ⟨h.m.kpN hk, h.l.kpN hk, h.v.kpN hk, h.ms, h.ls, h.vs⟩
theorem CAt.wide (h : CAt B w V c) (hB : B ≤ B') : CAt B' w V c := ⟨h.m.wide hB, h.l.wide hB, h.v.wide hB, h.ms, h.ls, h.vs⟩
end

set_option maxHeartbeats 400000 in
theorem containsMotion_any (g : Nat) (lb : Array Value) (p : (Value × Motion) → Bool) (eg : ∀ args w, (callFunc g args).run Tryz.prog w = .ok (.enter g args) w) (A : Option Addr) (cap : Nat) (xs : List (Value × Motion)) (w : World)
    (hp : PredK g lb encVM p w) (hr : Rd none w 8 encVM A xs.length xs) (hn : xs.length ≤ 17592186044416) :
    Calls Tryz.prog 84 #[.slice A xs.length cap, .func (.func g) #[] lb] w fun e w' => e = .returned (.bool (xs.any p)) ∧ Kp w.heap.size none w w' := by
  have c := indexMotion_any g lb p eg A cap xs w hp hr hn
  rw [← idx_any p xs]
  generalize idxI p xs 0 = r at c ⊢
  clear hp hr
  go_enter Tryz.func84, Tryz.ntmps84
  go_wp2_with fail
  refine c.mono ?_
  rintro e w1 ⟨rfl, k1⟩
  go_wp2
  go_ret
  exact ⟨rfl, k1⟩
set_option maxHeartbeats 400000 in
theorem indexInt_any (x : Int) (A : Option Addr) (cap : Nat) (xs : List Int) (w : World) (hr : Rd none w 1 encI A xs.length xs) (hn : xs.length ≤ 17592186044416) :
    Calls Tryz.prog 107 #[.slice A xs.length cap, .int .i64 x] w fun e w' => e = .returned (.int .i64 (idxI (fun y => x == y) xs 0)) ∧ Kp w.heap.size none w w' := by
  obtain ⟨V, hV⟩ : ∃ V, V = idxI (fun y => x == y) xs 0 := ⟨_, rfl⟩
  rw [← hV]
  go_enter Tryz.func107, Tryz.ntmps107
  go_wp2_with fail
  go_loopw [8] (fun v wr => IdxAt V (fun y => x == y) xs w v wr) (fun v _ => xs.length - (intOf v).toNat)
  case atStart => exact ⟨0, rfl, by omega, by rw [hV]; rfl, Kp.refl _ _ _⟩
  case round =>
    obtain ⟨i, rfl, hi, hj, KK⟩ := hrel
    by_cases h7 : i < xs.length
    · obtain ⟨b, o, rfl, hb, -, hc⟩ := (hr.kpN KK).at_ (by omega)
      have c0 := Rd.cell1 (f := fun y => .int .i64 y) (fun _ => rfl) hc i h7
      have hi' : (i : Int) < (xs.length : Int) := by omega
      rw [idx_drop _ xs i h7] at hj
      replace hr := Lib.hid hr
      clear hc
      generalize xs[i] = y at c0 hj
      by_cases hq : x = y
      · rw [if_pos (by simpa using hq)] at hj
        replace hj := Lib.hid hj
        go_wp2
        go_ret
        exact ⟨ret_int hj.out, KK⟩
      · rw [if_neg (by simpa using hq)] at hj
        replace hj := Lib.hid hj
        replace h7 := Lib.hid h7
        clear hi
        go_wp2
        go_roundw
        case rel => exact ⟨i + 1, rfl, h7.out, hj.out, KK⟩
        case measure => have := h7.out; simp [intOf]; omega
    · have he : i = xs.length := by omega
      have hi' : ¬ (i : Int) < (xs.length : Int) := by omega
      rw [he, List.drop_length] at hj
      replace hj := Lib.hid hj
      clear h7 hi
      subst he
      go_wp2
      go_ret
      exact ⟨ret_int (hj.out.trans hV), KK⟩
set_option maxHeartbeats 400000 in
theorem containsInt_any (x : Int) (A : Option Addr) (cap : Nat) (xs : List Int) (w : World) (hr : Rd none w 1 encI A xs.length xs) (hn : xs.length ≤ 17592186044416) :
    Calls Tryz.prog 88 #[.slice A xs.length cap, .int .i64 x] w fun e w' => e = .returned (.bool (xs.any fun y => x == y)) ∧ Kp w.heap.size none w w' := by
  have c := indexInt_any x A cap xs w hr hn
  rw [← idx_any (fun y => x == y) xs]
  generalize idxI (fun y => x == y) xs 0 = r at c ⊢
  clear hr
  go_enter Tryz.func88, Tryz.ntmps88
  go_wp2_with fail
  refine c.mono ?_
  rintro e w1 ⟨rfl, k1⟩
  go_wp2
  go_ret
  exact ⟨rfl, k1⟩

set_option maxHeartbeats 400000 in
theorem council_CheckChance_any (x : Chance) (w : World) :
    Calls Tryz.prog 62 #[.agg #[.int .i64 x.least, .int .i64 x.most, .int .i64 x.all]] w fun e w' => e = .returned (.int .i64 (chanceErr x)) ∧ Kp w.heap.size none w w' := by
  have hb := Blk.new w 34 #[.int .i64 x.least, .int .i64 x.most, .int .i64 x.all]
  have KK := Kp.new w (.cells #[.int .i64 x.least, .int .i64 x.most, .int .i64 x.all] 34)
  have fin : ∀ (e : Ending) (w' : World) (n : Int), e = .returned (.int .i64 n) → n = chanceErr x → Kp w.heap.size none w w' → e = .returned (.int .i64 (chanceErr x)) ∧ Kp w.heap.size none w w' := fun e w' n h1 h2 h3 => ⟨h2 ▸ h1, h3⟩
  replace fin := Lib.hid fin
  go_enter Tryz.func62, Tryz.ntmps62
  rcases (show (x.least < 0 ∨ x.most < x.least ∨ x.all < x.most) ∨ (¬ x.least < 0 ∧ ¬ x.most < x.least ∧ ¬ x.all < x.most) by omega) with hh | ⟨h1, h2, h3⟩
  · rcases hh with h1 | h1 | h1
    · go_wp2
      go_ret
      refine fin.out _ _ _ rfl ?_ (Kp.new _ _)
      unfold chanceErr
      rw [if_pos (by omega)]
    · by_cases h2 : x.least < 0
      · go_wp2
        go_ret
        refine fin.out _ _ _ rfl ?_ (Kp.new _ _)
        unfold chanceErr
        rw [if_pos (by omega)]
      · go_wp2
        go_ret
        refine fin.out _ _ _ rfl ?_ (Kp.new _ _)
        unfold chanceErr
        rw [if_pos (by omega)]
    · by_cases h2 : x.least < 0
      · go_wp2
        go_ret
        refine fin.out _ _ _ rfl ?_ (Kp.new _ _)
        unfold chanceErr
        rw [if_pos (by omega)]
      · by_cases h3 : x.most < x.least
        · go_wp2
          go_ret
          refine fin.out _ _ _ rfl ?_ (Kp.new _ _)
          unfold chanceErr
          rw [if_pos (by omega)]
        · go_wp2
          go_ret
          refine fin.out _ _ _ rfl ?_ (Kp.new _ _)
          unfold chanceErr
          rw [if_pos (by omega)]
  · go_wp2_with fail
    refine (council_within_any _ _ _ _).mono ?_
    rintro e w1 ⟨rfl, k1⟩
    replace KK := KK.thenN k1 (Nat.le_refl _)
    cases hb1 : bt x.all 1 1125899906842624
    · have hb2 := Lib.hid hb1
      clear hb1
      go_wp2
      go_ret
      refine fin.out _ _ _ rfl ?_ KK
      have := hb2.out
      simp only [bt, Bool.and_eq_false_iff, decide_eq_false_iff_not] at this
      unfold chanceErr
      rw [if_pos (by omega)]
    · have hb2 := Lib.hid hb1
      clear hb1
      go_wp2
      go_ret
      refine fin.out _ _ _ rfl ?_ KK
      have := hb2.out
      simp only [bt, Bool.and_eq_true, decide_eq_true_eq] at this
      unfold chanceErr
      rw [if_neg (by omega)]
set_option maxHeartbeats 400000 in
theorem council_law_any (act : Int) (B : Nat) (V : CV) (c : Council) (w : World) (h : CAt B w V c) :
    Calls Tryz.prog 82 #[.agg #[.slice V.am c.members.length V.cm, .slice V.al c.laws.length V.cl, .slice V.av c.levels.length V.cv], .int .i64 act] w fun e w' => e = .returned (.tuple #[.agg #[.int .i64 (lawD c act).act, .int .i64 (lawD c act).level, .int .i64 (lawD c act).window, .int .i64 (lawD c act).quorum, .int .i64 (lawD c act).share], .bool (lawOf c act).isSome]) ∧ Kp w.heap.size none w w' := by
  have hA := ((Blk.new w 28 #[.slice V.am c.members.length V.cm, .slice V.al c.laws.length V.cl, .slice V.av c.levels.length V.cv]).alloc (.cells #[.int .i64 act] 3)).alloc (.cells #[.int .i64 0, .int .i64 0, .int .i64 0, .int .i64 0, .int .i64 0] 101)
  have hB := (Blk.newAt (w.alloc (.cells #[.slice V.am c.members.length V.cm, .slice V.al c.laws.length V.cl, .slice V.av c.levels.length V.cv] 28)) 3 #[.int .i64 act] (n := w.heap.size + 1) (by simp)).alloc (.cells #[.int .i64 0, .int .i64 0, .int .i64 0, .int .i64 0, .int .i64 0] 101)
  have hC := Blk.newAt ((w.alloc (.cells #[.slice V.am c.members.length V.cm, .slice V.al c.laws.length V.cl, .slice V.av c.levels.length V.cv] 28)).alloc (.cells #[.int .i64 act] 3)) 101 #[.int .i64 0, .int .i64 0, .int .i64 0, .int .i64 0, .int .i64 0] (n := w.heap.size + 1 + 1) (by simp)
  have KK := (Kp.new2 w (.cells #[.slice V.am c.members.length V.cm, .slice V.al c.laws.length V.cl, .slice V.av c.levels.length V.cv] 28) (.cells #[.int .i64 act] 3)).alloc (by simp; omega) (.cells #[.int .i64 0, .int .i64 0, .int .i64 0, .int .i64 0, .int .i64 0] 101)
  have eg : ∀ args w, (callFunc 104 args).run Tryz.prog w = .ok (.enter 104 args) w := enters_of Tryz.func104 (by kernel_rfl) rfl
  obtain ⟨D, hD⟩ : ∃ D, D = lawD c act := ⟨_, rfl⟩
  obtain ⟨d, hd⟩ : ∃ d, d = (lawOf c act).isSome := ⟨_, rfl⟩
  rw [← hD, ← hd]
  replace hD := Lib.hid hD
  replace hd := Lib.hid hd
  go_enter Tryz.func82, Tryz.ntmps82
  go_wp2_with fail
  generalize hw0 : ((w.alloc (.cells #[.slice V.am c.members.length V.cm, .slice V.al c.laws.length V.cl, .slice V.av c.levels.length V.cv] 28)).alloc (.cells #[.int .i64 act] 3)).alloc (.cells #[.int .i64 0, .int .i64 0, .int .i64 0, .int .i64 0, .int .i64 0] 101) = w0 at hA hB hC KK ⊢
  clear hw0
  replace h := h.kpN KK
  refine (indexLaw_any 104 _ (fun x => x.act == act) eg V.al V.cl c.laws w0 (law1_pred _ _ _ (hB.cell 0)) h.l.rdN h.ls).mono ?_
  rintro e w1 ⟨rfl, k1⟩
  replace hA := hA.kpN k1
  replace hB := hB.kpN k1
  replace hC := hC.kpN k1
  replace h := h.kpN k1
  replace KK := KK.thenN k1 (Nat.le_refl _)
  clear k1
  have ca := fun i => hA.cell i
  have cc := fun i => hC.cell i
  have fc := fun i => hC.frozen i
  have hle : w.heap.size ≤ w.heap.size + 1 + 1 := by omega
  rcases idx_spec (fun x : LawC => x.act == act) c.laws 0 with ⟨h1, h2⟩ | ⟨i, hi, h1, h2, h3, -⟩
  · have e1 : D = zeroLaw := by rw [hD.out]; unfold lawD lawOf; rw [h2]; rfl
    have e2 : d = false := by rw [hd.out]; unfold lawOf; rw [h2]; rfl
    subst e1
    subst e2
    rw [h1]
    clear h1 h2 hD hd
    go_wp2
    refine bodyPost_ret (v := .tuple #[.agg #[.int .i64 zeroLaw.act, .int .i64 zeroLaw.level, .int .i64 zeroLaw.window, .int .i64 zeroLaw.quorum, .int .i64 zeroLaw.share], .bool false]) (by simp [results, Tryz.results82, go_sem, cc, zeroLaw]) rfl ⟨rfl, ?_⟩
    iterate 5 refine Kp.setNew ?_ hle _
    exact KK
  · have e1 : D = c.laws[i] := by rw [hD.out]; unfold lawD lawOf; rw [h2]; rfl
    have e2 : d = true := by rw [hd.out]; unfold lawOf; rw [h2]; rfl
    rw [h1]
    replace e1 := Lib.hid e1
    subst e2
    obtain ⟨b, o, hal, hbl, -, hc⟩ := h.l.rdN.at_ (by omega)
    have hi' : (i : Int) < (c.laws.length : Int) := by omega
    clear h1 h2 h3 hd hD
    have d0 : w1.cell? ⟨b, o + i * 5 + 0, none⟩ = some (.int .i64 c.laws[i].act) := by rw [Nat.add_assoc]; exact hc i hi 0 _ rfl
    have d1 : w1.cell? ⟨b, o + i * 5 + 1, none⟩ = some (.int .i64 c.laws[i].level) := by rw [Nat.add_assoc]; exact hc i hi 1 _ rfl
    have d2 : w1.cell? ⟨b, o + i * 5 + 2, none⟩ = some (.int .i64 c.laws[i].window) := by rw [Nat.add_assoc]; exact hc i hi 2 _ rfl
    have d3 : w1.cell? ⟨b, o + i * 5 + 3, none⟩ = some (.int .i64 c.laws[i].quorum) := by rw [Nat.add_assoc]; exact hc i hi 3 _ rfl
    have d4 : w1.cell? ⟨b, o + i * 5 + 4, none⟩ = some (.int .i64 c.laws[i].share) := by rw [Nat.add_assoc]; exact hc i hi 4 _ rfl
    rw [← e1.out] at d0 d1 d2 d3 d4
    clear e1
    simp only [Nat.add_zero] at d0
    simp only [Int.zero_add]
    clear hc
    go_wp2
    refine bodyPost_ret (v := .tuple #[.agg #[.int .i64 D.act, .int .i64 D.level, .int .i64 D.window, .int .i64 D.quorum, .int .i64 D.share], .bool true]) (by simp [results, Tryz.results82, go_sem, cc]) rfl ⟨rfl, ?_⟩
    iterate 5 refine Kp.setNew ?_ hle _
    exact KK
end Go.Proofs.YtogpgnljomchcaaGreat
namespace Go.Proofs.YtogpgnljomchcaaGreat
open Go.RowKit

theorem weight_call (W : World) (x : Member) :
    Calls Tryz.prog 109 #[.agg #[.int .i64 x.id, .int .i64 x.weight]] W fun e w' => e = .returned (.int .i64 x.weight) ∧ Kp W.heap.size none W w' := by
  go_enter Tryz.func109, Tryz.ntmps109
  go_wp2
  go_ret
  exact ⟨rfl, Kp.new _ _⟩
def SumAt (ms : List Member) (w : World) (v n : Value) (wr : World) : Prop := ∃ (i : Nat) (s : Int), v = .int .i64 i ∧ n = .int .i64 s ∧ i ≤ ms.length ∧ 0 ≤ s ∧ s ≤ i * 1099511627776 ∧ s + ((ms.drop i).map Member.weight).sum = (ms.map Member.weight).sum ∧ Kp w.heap.size none w wr
set_option maxHeartbeats 400000 in
theorem sum_any (A : Option Addr) (cap : Nat) (ms : List Member) (w : World) (hr : Rd none w 2 encMember A ms.length ms) (hn : ms.length ≤ 64) (hw : ∀ m ∈ ms, 0 < m.id ∧ 1 ≤ m.weight ∧ m.weight ≤ 1099511627776) :
    Calls Tryz.prog 108 #[.slice A ms.length cap, .func (.func 109) #[] #[]] w fun e w' => e = .returned (.int .i64 (ms.map Member.weight).sum) ∧ Kp w.heap.size none w w' := by
  obtain ⟨V, hV⟩ : ∃ V, V = (ms.map Member.weight).sum := ⟨_, rfl⟩
  rw [← hV]
  have eg : ∀ args w, (callFunc 109 args).run Tryz.prog w = .ok (.enter 109 args) w := enters_of Tryz.func109 (by kernel_rfl) rfl
  replace hV := Lib.hid hV
  replace hw := Lib.hid hw
  go_enter Tryz.func108, Tryz.ntmps108
  go_wp2_with fail
  go_loopw [10, 5] (fun v n wr => SumAt ms w v n wr) (fun v _ _ => ms.length - (intOf v).toNat)
  case atStart => exact ⟨0, 0, rfl, rfl, by omega, by omega, by omega, by simp, Kp.refl _ _ _⟩
  case round =>
    obtain ⟨i, s, rfl, rfl, hi, hs0, hs1, hj, KK⟩ := hrel
    by_cases h7 : i < ms.length
    · obtain ⟨b, o, rfl, hb, -, hc⟩ := (hr.kpN KK).at_ (by omega)
      have c0 : wr.cell? ⟨b, o + i * 2, none⟩ = some (.int .i64 ms[i].id) := hc i h7 0 _ rfl
      have c1 : wr.cell? ⟨b, o + i * 2 + 1, none⟩ = some (.int .i64 ms[i].weight) := by rw [Nat.add_assoc]; exact hc i h7 1 _ rfl
      have hi' : (i : Int) < (ms.length : Int) := by omega
      have hwi := hw.out ms[i] (List.getElem_mem h7)
      have hj2 : s + (ms[i].weight + ((ms.drop (i + 1)).map Member.weight).sum) = (ms.map Member.weight).sum := by
        rw [List.drop_eq_getElem_cons h7, List.map_cons, List.sum_cons] at hj
        exact hj
      replace hr := Lib.hid hr
      generalize ms[i] = x at c0 c1 hwi hj2
      replace hj2 := Lib.hid hj2
      have hb2 : s + x.weight ≤ ((i + 1 : Nat) : Int) * 1099511627776 := by push_cast; omega
      have hb1 : s + x.weight ≤ 70368744177664 := by omega
      have hb0 : 0 ≤ s + x.weight := by omega
      replace hb2 := Lib.hid hb2
      have hwr : wrap64 (s + x.weight) = s + x.weight := IntWalk.wrap64_in _ (by omega)
      have B1 := Blk.new wr 99 #[.int .i64 x.id, .int .i64 x.weight]
      replace KK := KK.alloc KK.size (.cells #[.int .i64 x.id, .int .i64 x.weight] 99)
      replace h7 := Lib.hid h7
      clear hj hc hs1 hi
      go_wp2_with fail
      refine (weight_call _ x).mono ?_
      rintro e w2 ⟨rfl, k2⟩
      go_wp2
      go_roundw
      case rel => exact ⟨i + 1, s + x.weight, rfl, rfl, h7.out, hb0, hb2.out, by rw [← hj2.out]; omega, KK.thenN k2 (Nat.le_refl _)⟩
      case measure => have := h7.out; simp [intOf]; omega
    · have he : i = ms.length := by omega
      have hi' : ¬ (i : Int) < (ms.length : Int) := by omega
      rw [he, List.drop_length] at hj
      have hj := Lib.hid (show s = (ms.map Member.weight).sum by simpa using hj)
      clear h7 hi
      subst he
      go_wp2
      go_ret
      exact ⟨ret_int (hj.out.trans hV.out.symm), KK⟩

structure LawIn (x : LawC) : Prop where
  q0 : 0 ≤ x.quorum
  q1 : x.quorum ≤ 1000
  s0 : 0 ≤ x.share
  s1 : x.share ≤ 1000
theorem lawIn_of {c : Council} (h : CouncilOk c) (act : Int) : LawIn (lawD c act) := by
  have := lawD_ok h act
  exact ⟨this.2.2.2.2.1, this.2.2.2.2.2.1, this.2.2.2.2.2.2.1, this.2.2.2.2.2.2.2⟩
theorem mul_wrap {q S : Int} (h0 : 0 ≤ q) (h1 : q ≤ 1000) (hs : 0 ≤ S) (hs1 : S ≤ 70368744177664) : wrap64 (q * S) = q * S := by
  have a := Int.mul_nonneg h0 hs
  have b : q * S ≤ 1000 * S := Int.mul_le_mul_of_nonneg_right h1 hs
  generalize q * S = X at a b ⊢
  exact IntWalk.wrap64_in _ (by omega)
set_option maxHeartbeats 400000 in
theorem council_votes_any (x : LawC) (yes no : Int) (B : Nat) (V : CV) (c : Council) (w : World) (h : CAt B w V c) (hc : CouncilOk c) (hx : LawIn x) (hy : 0 ≤ yes) (hn : 0 ≤ no) (hyn : yes + no ≤ 2251799813685248) :
    Calls Tryz.prog 89 #[.agg #[.slice V.am c.members.length V.cm, .slice V.al c.laws.length V.cl, .slice V.av c.levels.length V.cv], .agg #[.int .i64 x.act, .int .i64 x.level, .int .i64 x.window, .int .i64 x.quorum, .int .i64 x.share], .int .i64 yes, .int .i64 no] w fun e w' => e = .returned (.bool (votesOk c x yes no)) ∧ Kp w.heap.size none w w' := by
  have hA := (Blk.new w 28 #[.slice V.am c.members.length V.cm, .slice V.al c.laws.length V.cl, .slice V.av c.levels.length V.cv]).alloc (.cells #[.int .i64 x.act, .int .i64 x.level, .int .i64 x.window, .int .i64 x.quorum, .int .i64 x.share] 101)
  have hB := Blk.newAt (w.alloc (.cells #[.slice V.am c.members.length V.cm, .slice V.al c.laws.length V.cl, .slice V.av c.levels.length V.cv] 28)) 101 #[.int .i64 x.act, .int .i64 x.level, .int .i64 x.window, .int .i64 x.quorum, .int .i64 x.share] (n := w.heap.size + 1) (by simp)
  have KK := Kp.new2 w (.cells #[.slice V.am c.members.length V.cm, .slice V.al c.laws.length V.cl, .slice V.av c.levels.length V.cv] 28) (.cells #[.int .i64 x.act, .int .i64 x.level, .int .i64 x.window, .int .i64 x.quorum, .int .i64 x.share] 101)
  obtain ⟨R, hR⟩ : ∃ R, R = votesOk c x yes no := ⟨_, rfl⟩
  rw [← hR]
  replace hR := Lib.hid hR
  have hs := sumW_bd c.members hc.mem
  have hl : (c.members.length : Int) ≤ 64 := by have := hc.mlen; omega
  have hcs := sum_any V.am V.cm c.members
  have hm := hc.mlen
  have hw := hc.mem
  replace hc := Lib.hid hc
  replace hw := Lib.hid hw
  go_enter Tryz.func89, Tryz.ntmps89
  go_wp2_with fail
  generalize hw0 : (w.alloc (.cells #[.slice V.am c.members.length V.cm, .slice V.al c.laws.length V.cl, .slice V.av c.levels.length V.cv] 28)).alloc (.cells #[.int .i64 x.act, .int .i64 x.level, .int .i64 x.window, .int .i64 x.quorum, .int .i64 x.share] 101) = w0 at hA hB KK ⊢
  clear hw0
  replace h := h.kpN KK
  refine (hcs w0 h.m.rdN hm hw.out).mono ?_
  rintro e w1 ⟨rfl, k1⟩
  replace hA := hA.kpN k1
  replace hB := hB.kpN k1
  replace KK := KK.thenN k1 (Nat.le_refl _)
  have cb := fun i => hB.cell i
  replace hR := Lib.hid (show R = (decide (x.quorum * (c.members.map Member.weight).sum ≤ 1000 * (yes + no)) && decide (x.share * (c.members.map Member.weight).sum ≤ 1000 * yes)) from hR.out)
  clear hcs k1 h hw hc
  generalize (c.members.map Member.weight).sum = S at hs hR ⊢
  have hS1 : S ≤ 70368744177664 := by omega
  have hS0 := hs.1
  have e1 := mul_wrap hx.q0 hx.q1 hS0 hS1
  have e2 := mul_wrap hx.s0 hx.s1 hS0 hS1
  have e3 : wrap64 (yes + no) = yes + no := IntWalk.wrap64_in _ (by omega)
  have e4 : wrap64 (1000 * (yes + no)) = 1000 * (yes + no) := IntWalk.wrap64_in _ (by omega)
  have e5 : wrap64 (1000 * yes) = 1000 * yes := IntWalk.wrap64_in _ (by omega)
  clear hs hm hl hS0 hS1 hx hy hn hyn
  go_wp2
  all_goals
    go_ret
    refine ⟨ret_bool ?_, KK⟩
    rw [hR.out]
    rename_i hlt
    first
      | (rw [decide_eq_true hlt, Bool.true_and]; done)
      | (rw [decide_eq_true hlt, Bool.true_and])
      | (rw [decide_eq_false (Int.not_le.2 hlt), Bool.false_and])
def LevAt (V : Nat) (ls : List Int) (x : Chance) (w : World) (v n : Value) (wr : World) : Prop := ∃ (i k : Nat), v = .int .i64 i ∧ n = .int .i64 k ∧ i ≤ ls.length ∧ k ≤ i ∧ k + ((ls.drop i).filter (reaches x)).length = V ∧ Kp w.heap.size none w wr
theorem chance_in {x : Chance} (h : chanceErr x = 0) : 0 ≤ x.most ∧ x.most ≤ 1125899906842624 ∧ 1 ≤ x.all ∧ x.all ≤ 1125899906842624 := by
  unfold chanceErr at h
  split at h
  · cases h
  · omega
theorem reach_cmp {m l a H L H' L' : Nat} (x : Chance) (hm : x.most = m) (ha : x.all = a) (h : Pr m 1000000000 H L) (k : Pr l a H' L') : reaches x l = decide (0 ≤ cmpHL H L H' L') := by
  unfold reaches
  rw [hm, ha]
  refine decide_eq_decide.2 ?_
  rw [cmp_ge h k]
  omega
set_option maxHeartbeats 400000 in
theorem council_level_any (x : Chance) (B : Nat) (V : CV) (c : Council) (w : World) (h : CAt B w V c) (hv : c.levels.length ≤ 8) (hl : ∀ n ∈ c.levels, 0 < n ∧ n ≤ 1000000000) (hx : chanceErr x = 0) :
    Calls Tryz.prog 63 #[.agg #[.slice V.am c.members.length V.cm, .slice V.al c.laws.length V.cl, .slice V.av c.levels.length V.cv], .agg #[.int .i64 x.least, .int .i64 x.most, .int .i64 x.all]] w fun e w' => e = .returned (.int .i64 (levelOf c x)) ∧ Kp w.heap.size none w w' := by
  obtain ⟨am, cm, al, cl, av, cv⟩ := V
  have hA := (Blk.new w 28 #[.slice am c.members.length cm, .slice al c.laws.length cl, .slice av c.levels.length cv]).alloc (.cells #[.int .i64 x.least, .int .i64 x.most, .int .i64 x.all] 34)
  have hB := Blk.newAt (w.alloc (.cells #[.slice am c.members.length cm, .slice al c.laws.length cl, .slice av c.levels.length cv] 28)) 34 #[.int .i64 x.least, .int .i64 x.most, .int .i64 x.all] (n := w.heap.size + 1) (by simp)
  have KK := Kp.new2 w (.cells #[.slice am c.members.length cm, .slice al c.laws.length cl, .slice av c.levels.length cv] 28) (.cells #[.int .i64 x.least, .int .i64 x.most, .int .i64 x.all] 34)
  have hxi := chance_in hx
  obtain ⟨m, hm⟩ := Int.eq_ofNat_of_zero_le hxi.1
  obtain ⟨a, ha⟩ := Int.eq_ofNat_of_zero_le (show 0 ≤ x.all by omega)
  have haL : a ≤ 1125899906842624 := by omega
  obtain ⟨H, L, hP⟩ := pr_of m 1000000000 (by omega) (by decide)
  obtain ⟨R, hR⟩ : ∃ R, R = levelOf c x := ⟨_, rfl⟩
  rw [← hR]
  replace hR := Lib.hid (show (c.levels.filter (reaches x)).length = R from hR.symm)
  replace hx := Lib.hid hx
  replace hl := Lib.hid hl
  replace hP := Lib.hid hP
  replace hm := Lib.hid hm
  replace ha := Lib.hid ha
  go_enter Tryz.func63, Tryz.ntmps63
  go_wp2_with fail
  generalize hw0 : (w.alloc (.cells #[.slice am c.members.length cm, .slice al c.laws.length cl, .slice av c.levels.length cv] 28)).alloc (.cells #[.int .i64 x.least, .int .i64 x.most, .int .i64 x.all] 34) = w0 at hA hB KK ⊢
  clear hw0
  replace h : Rd none w0 1 encI av c.levels.length c.levels := (h.kpN KK).v.rdN
  go_loopw [11, 5] (fun v n wr => LevAt R c.levels x w0 v n wr) (fun v _ _ => c.levels.length - (intOf v).toNat)
  case atStart => exact ⟨0, 0, rfl, rfl, by omega, by omega, by simpa using hR.out, Kp.refl _ _ _⟩
  case round =>
    obtain ⟨i, k, rfl, rfl, hi, hk, hj, K1⟩ := hrel
    replace hB := hB.kpN K1
    have cb := fun i => hB.cell i
    by_cases h7 : i < c.levels.length
    · obtain ⟨b, o, rfl, hb, -, hcc⟩ := (h.kpN K1).at_ (by omega)
      have c0 := Rd.cell1 (f := fun y => .int .i64 y) (fun _ => rfl) hcc i h7
      have hi' : (i : Int) < (c.levels.length : Int) := by omega
      have hln := hl.out c.levels[i] (List.getElem_mem h7)
      rw [List.drop_eq_getElem_cons h7, List.filter_cons] at hj
      replace h := Lib.hid h
      generalize c.levels[i] = y at c0 hln hj
      obtain ⟨l, rfl⟩ := Int.eq_ofNat_of_zero_le (show 0 ≤ y by omega)
      obtain ⟨H', L', hQ⟩ := pr_of l a (by omega) (by omega)
      have hrc := reach_cmp x hm.out ha.out hP.out hQ
      replace hQ := Lib.hid hQ
      rw [hrc] at hj
      clear hrc hcc
      replace h7 := Lib.hid h7
      have hk8 : (k : Int) ≤ 8 := by omega
      have K2 := fun w2 (q : Kp wr.heap.size none wr w2) => K1.thenN q (Nat.le_refl _)
      clear hi hln hxi
      have cr := span_Cross_any m l a 1000000000 H L H' L' hP hQ
      rw [← hm.out, ← ha.out] at cr
      go_wp2_with fail
      refine (cr _).mono ?_
      rintro e w2 ⟨rfl, k2⟩
      replace K2 := K2 _ k2
      clear k2
      generalize cmpHL H L H' L' = r at hj ⊢
      by_cases hr : 0 ≤ r
      · rw [decide_eq_true hr, if_pos rfl, List.length_cons] at hj
        replace hj := Lib.hid hj
        go_wp2
        go_roundw
        case rel => exact ⟨i + 1, k + 1, rfl, rfl, h7.out, by omega, by have := hj.out; omega, K2⟩
        case measure => have := h7.out; simp [intOf]; omega
      · rw [decide_eq_false hr, if_neg (by simp)] at hj
        replace hj := Lib.hid hj
        go_wp2
        go_roundw
        case rel => exact ⟨i + 1, k, rfl, rfl, h7.out, by omega, hj.out, K2⟩
        case measure => have := h7.out; simp [intOf]; omega
    · have he : i = c.levels.length := by omega
      have hi' : ¬ (i : Int) < (c.levels.length : Int) := by omega
      rw [he, List.drop_length] at hj
      have hj2 := Lib.hid (show k = R by simpa using hj)
      replace KK := KK.thenN K1 (Nat.le_refl _)
      clear h7 hi hj
      subst he
      go_wp2
      exact bodyPost_ret (v := .int .i64 R) (by simp [results, Tryz.results63, go_sem, hj2.out]) rfl ⟨rfl, KK⟩
end Go.Proofs.YtogpgnljomchcaaGreat
namespace Go.Proofs.YtogpgnljomchcaaGreat
open Go.RowKit

def CkAt {α : Type} (f : Int → List α → Int) (V : Int) (xs : List α) (w : World) (v l : Value) (wr : World) : Prop := ∃ (i : Nat) (last : Int), v = .int .i64 i ∧ l = .int .i64 last ∧ i ≤ xs.length ∧ f last (xs.drop i) = V ∧ Kp w.heap.size none w wr
theorem chkM_drop (last : Int) (ms : List Member) (i : Nat) (h : i < ms.length) : chkMembers last (ms.drop i) = if ms[i].id ≤ last then 11 else if ms[i].weight < 1 ∨ 1099511627776 < ms[i].weight then 2 else chkMembers ms[i].id (ms.drop (i + 1)) := by
  rw [List.drop_eq_getElem_cons h]; rfl
theorem chkL_drop (last : Int) (ms : List LawC) (i : Nat) (h : i < ms.length) : chkLaws last (ms.drop i) = if lawErr ms[i] last = 0 then chkLaws ms[i].act (ms.drop (i + 1)) else lawErr ms[i] last := by
  rw [List.drop_eq_getElem_cons h]; rfl
theorem chkV_drop (last : Int) (ms : List Int) (i : Nat) (h : i < ms.length) : chkLevels last (ms.drop i) = if ms[i] ≤ last then 11 else if 1000000000 < ms[i] then 2 else chkLevels ms[i] (ms.drop (i + 1)) := by
  rw [List.drop_eq_getElem_cons h]; rfl
theorem bt_true {n lo hi : Int} (h : bt n lo hi = true) : lo ≤ n ∧ n ≤ hi := by simpa [bt] using h
theorem bt_false {n lo hi : Int} (h : bt n lo hi = false) : n < lo ∨ hi < n := by
  simp only [bt, Bool.and_eq_false_iff, decide_eq_false_iff_not] at h; omega
theorem checkC_m {c : Council} (h0 : c.members.length ≠ 0) (h1 : ¬ 64 < c.members.length) (h : chkMembers 0 c.members ≠ 0) : checkC c = chkMembers 0 c.members := by
  unfold checkC
  rw [if_neg h0, if_neg h1, if_pos h]
theorem checkC_l {c : Council} (h0 : c.members.length ≠ 0) (h1 : ¬ 64 < c.members.length) (h : chkMembers 0 c.members = 0) (h2 : ¬ 16 < c.laws.length) (h3 : chkLaws 0 c.laws ≠ 0) : checkC c = chkLaws 0 c.laws := by
  unfold checkC
  rw [if_neg h0, if_neg h1, if_neg (by simpa using h), if_neg h2, if_pos h3]
theorem checkC_v {c : Council} (h0 : c.members.length ≠ 0) (h1 : ¬ 64 < c.members.length) (h : chkMembers 0 c.members = 0) (h2 : ¬ 16 < c.laws.length) (h3 : chkLaws 0 c.laws = 0) (h4 : ¬ 8 < c.levels.length) : checkC c = chkLevels 0 c.levels := by
  unfold checkC
  rw [if_neg h0, if_neg h1, if_neg (by simpa using h), if_neg h2, if_neg (by simpa using h3), if_neg h4]

set_option maxHeartbeats 2000000 in
theorem council_Check_any (B : Nat) (V : CV) (c : Council) (w : World) (h : CAt B w V c) :
    Calls Tryz.prog 29 #[.agg #[.slice V.am c.members.length V.cm, .slice V.al c.laws.length V.cl, .slice V.av c.levels.length V.cv]] w fun e w' => e = .returned (.int .i64 (checkC c)) ∧ Kp w.heap.size none w w' := by
  obtain ⟨am, cm, al, cl, av, cv⟩ := V
  have KK := Kp.new w (.cells #[.slice am c.members.length cm, .slice al c.laws.length cl, .slice av c.levels.length cv] 28)
  have hA := Blk.new w 28 #[.slice am c.members.length cm, .slice al c.laws.length cl, .slice av c.levels.length cv]
  have fin : ∀ (e : Ending) (w' : World) (n : Int), e = .returned (.int .i64 n) → n = checkC c → Kp w.heap.size none w w' → e = .returned (.int .i64 (checkC c)) ∧ Kp w.heap.size none w w' := fun e w' n h1 h2 h3 => ⟨h2 ▸ h1, h3⟩
  replace fin := Lib.hid fin
  have hms := h.ms
  have hls := h.ls
  have hvs := h.vs
  have hM : Rd none _ 2 encMember am c.members.length c.members := (h.kpN KK).m.rdN
  have hL : Rd none _ 5 encLaw al c.laws.length c.laws := (h.kpN KK).l.rdN
  have hV : Rd none _ 1 encI av c.levels.length c.levels := (h.kpN KK).v.rdN
  clear h
  go_enter Tryz.func29, Tryz.ntmps29
  by_cases h0 : c.members.length = 0
  · have h0' : (c.members.length : Int) = 0 := by omega
    go_wp2
    go_ret
    exact fin.out _ _ _ rfl (by unfold checkC; rw [if_pos h0]) (Kp.new _ _)
  have h0' : ¬ (c.members.length : Int) = 0 := by omega
  by_cases h1 : 64 < c.members.length
  · have h1' : 64 < (c.members.length : Int) := by omega
    go_wp2
    go_ret
    exact fin.out _ _ _ rfl (by unfold checkC; rw [if_neg h0, if_pos h1]) KK
  have h1' : ¬ 64 < (c.members.length : Int) := by omega
  go_wp2_with fail
  generalize w.alloc (.cells #[.slice am c.members.length cm, .slice al c.laws.length cl, .slice av c.levels.length cv] 28) = w0 at hA hM hL hV KK ⊢
  obtain ⟨V1, hV1⟩ : ∃ V1, V1 = chkMembers 0 c.members := ⟨_, rfl⟩
  have fm := checkC_m h0 h1
  have fl := checkC_l h0 h1
  have fv := checkC_v h0 h1
  rw [← hV1] at fm fl fv
  replace hV1 := Lib.hid hV1
  replace fm := Lib.hid fm
  replace fl := Lib.hid fl
  replace fv := Lib.hid fv
  replace h0 := Lib.hid h0
  replace h1 := Lib.hid h1
  go_loopw [24, 3] (fun v n wr => CkAt chkMembers V1 c.members w0 v n wr) (fun v _ _ => c.members.length - (intOf v).toNat)
  case atStart => exact ⟨0, 0, rfl, rfl, by omega, by simpa using hV1.out.symm, Kp.refl _ _ _⟩
  case round =>
    obtain ⟨i, last, rfl, rfl, hi, hj, K1⟩ := hrel
    by_cases h7 : i < c.members.length
    · obtain ⟨b, o, rfl, hb, -, hcc⟩ := (hM.kpN K1).at_ (by omega)
      have c0 : wr.cell? ⟨b, o + i * 2, none⟩ = some (.int .i64 c.members[i].id) := hcc i h7 0 _ rfl
      have c1 : wr.cell? ⟨b, o + i * 2 + 1, none⟩ = some (.int .i64 c.members[i].weight) := by rw [Nat.add_assoc]; exact hcc i h7 1 _ rfl
      have hi' : (i : Int) < (c.members.length : Int) := by omega
      rw [chkM_drop last c.members i h7] at hj
      clear hcc hM hL hV
      generalize c.members[i] = x at c0 c1 hj
      have K2 := (KK.thenN K1 (Nat.le_refl _)).alloc (by have := KK.size; have := K1.size; omega) (.cells #[.int .i64 x.id, .int .i64 x.weight] 99)
      have B2 := Blk.new wr 99 #[.int .i64 x.id, .int .i64 x.weight]
      have K3 := K1.alloc (by have := K1.size; omega) (.cells #[.int .i64 x.id, .int .i64 x.weight] 99)
      clear K1 hi
      replace h7 := Lib.hid h7
      by_cases hq : x.id ≤ last
      · rw [if_pos hq] at hj
        have hj := Lib.hid (show V1 = 11 from hj.symm)
        go_wp2
        go_ret
        exact fin.out _ _ _ rfl (hj.out ▸ (fm.out (by rw [hj.out]; decide)).symm) K2
      · rw [if_neg hq] at hj
        replace hj := Lib.hid hj
        go_wp2_with fail
        refine (council_within_any _ _ _ _).mono ?_
        rintro e w2 ⟨rfl, k2⟩
        replace B2 := B2.kpN k2
        have cb := fun i => B2.cell i
        replace K2 := K2.thenN k2 (Nat.le_refl _)
        replace K3 := K3.thenN k2 (Nat.le_refl _)
        cases hbt : bt x.weight 1 1099511627776
        · have hj := Lib.hid (show V1 = 2 by have := hj.out; rw [if_pos (bt_false hbt)] at this; exact this.symm)
          go_wp2
          go_ret
          exact fin.out _ _ _ rfl (hj.out ▸ (fm.out (by rw [hj.out]; decide)).symm) K2
        · have hj := Lib.hid (show chkMembers x.id (c.members.drop (i + 1)) = V1 by have := hj.out; rw [if_neg (by have := bt_true hbt; omega)] at this; exact this)
          go_wp2
          go_roundw
          case rel => exact ⟨i + 1, x.id, rfl, rfl, h7.out, hj.out, K3⟩
          case measure => have := h7.out; simp [intOf]; omega
    · have he : i = c.members.length := by omega
      have hi' : ¬ (i : Int) < (c.members.length : Int) := by omega
      rw [he, List.drop_length] at hj
      have hj2 := Lib.hid (show V1 = 0 from hj.symm)
      replace hA := hA.kpN K1
      replace hL := hL.kpN K1
      replace hV := hV.kpN K1
      replace KK := KK.thenN K1 (Nat.le_refl _)
      have ca := fun i => hA.cell i
      have hm0 := Lib.hid (show chkMembers 0 c.members = 0 by rw [← hV1.out]; exact hj2.out)
      clear h7 hi hj hM fm hV1 K1
      subst he
      by_cases h16 : 16 < c.laws.length
      · have h16' : 16 < (c.laws.length : Int) := by omega
        have hz := Lib.hid (show 8 = checkC c by unfold checkC; rw [if_neg h0.out, if_neg h1.out, if_neg (by simpa using hm0.out), if_pos h16])
        go_wp2
        go_ret
        exact fin.out _ _ _ rfl hz.out KK
      have h16' : ¬ 16 < (c.laws.length : Int) := by omega
      go_wp2_with fail
      have fl := Lib.hid (fl.out hj2.out h16)
      have fv := Lib.hid (fv.out hj2.out h16)
      obtain ⟨V2, hV2⟩ : ∃ V2, V2 = chkLaws 0 c.laws := ⟨_, rfl⟩
      rw [← hV2] at fl fv
      replace hV2 := Lib.hid hV2
      replace h16 := Lib.hid h16
      clear hj2 ca
      rename World => w1
      go_loopw [48, 3] (fun v n w2 => CkAt chkLaws V2 c.laws w1 v n w2) (fun v _ _ => c.laws.length - (intOf v).toNat)
      case atStart => exact ⟨0, 0, rfl, rfl, by omega, by simpa using hV2.out.symm, Kp.refl _ _ _⟩
      case round =>
        obtain ⟨i, last, rfl, rfl, hi, hj, K1⟩ := hrel
        by_cases h7 : i < c.laws.length
        · obtain ⟨b, o, rfl, hb, -, hcc⟩ := (hL.kpN K1).at_ (by omega)
          have c0 : wr.cell? ⟨b, o + i * 5 + 0, none⟩ = some (.int .i64 c.laws[i].act) := by rw [Nat.add_assoc]; exact hcc i h7 0 _ rfl
          have c1 : wr.cell? ⟨b, o + i * 5 + 1, none⟩ = some (.int .i64 c.laws[i].level) := by rw [Nat.add_assoc]; exact hcc i h7 1 _ rfl
          have c2 : wr.cell? ⟨b, o + i * 5 + 2, none⟩ = some (.int .i64 c.laws[i].window) := by rw [Nat.add_assoc]; exact hcc i h7 2 _ rfl
          have c3 : wr.cell? ⟨b, o + i * 5 + 3, none⟩ = some (.int .i64 c.laws[i].quorum) := by rw [Nat.add_assoc]; exact hcc i h7 3 _ rfl
          have c4 : wr.cell? ⟨b, o + i * 5 + 4, none⟩ = some (.int .i64 c.laws[i].share) := by rw [Nat.add_assoc]; exact hcc i h7 4 _ rfl
          simp only [Nat.add_zero] at c0
          have hi' : (i : Int) < (c.laws.length : Int) := by omega
          rw [chkL_drop last c.laws i h7] at hj
          clear hcc hL hV
          generalize c.laws[i] = x at c0 c1 c2 c3 c4 hj
          have K2 := (KK.thenN K1 (Nat.le_refl _)).alloc (by have := KK.size; have := K1.size; omega) (.cells #[.int .i64 x.act, .int .i64 x.level, .int .i64 x.window, .int .i64 x.quorum, .int .i64 x.share] 101)
          have B2 := Blk.new wr 101 #[.int .i64 x.act, .int .i64 x.level, .int .i64 x.window, .int .i64 x.quorum, .int .i64 x.share]
          have K3 := K1.alloc (by have := K1.size; omega) (.cells #[.int .i64 x.act, .int .i64 x.level, .int .i64 x.window, .int .i64 x.quorum, .int .i64 x.share] 101)
          clear K1 hi
          replace h7 := Lib.hid h7
          have kz : lawErr x last ≠ 0 → lawErr x last = V2 := fun hz => by rw [if_neg hz] at hj; exact hj
          have bad : lawErr x last ≠ 0 → lawErr x last = checkC c := fun hz => by
            have := kz hz
            rw [this] at hz ⊢
            exact (fl.out hz).symm
          have good : lawErr x last = 0 → chkLaws x.act (c.laws.drop (i + 1)) = V2 := fun hz => by rw [if_pos hz] at hj; exact hj
          replace bad := Lib.hid bad
          replace good := Lib.hid good
          clear hj kz
          by_cases hq : x.act ≤ last
          · have hz := Lib.hid (show 11 = checkC c by
              have e : lawErr x last = 11 := by unfold lawErr; rw [if_pos hq]
              rw [← bad.out (by rw [e]; decide), e])
            go_wp2
            go_ret
            exact fin.out _ _ _ rfl hz.out K2
          · have e2 : lawBad x → 2 = checkC c := fun hbad => by
              have e : lawErr x last = 2 := by unfold lawErr; rw [if_neg hq, if_pos hbad]
              rw [← bad.out (by rw [e]; decide), e]
            have e0 : ¬ lawBad x → chkLaws x.act (c.laws.drop (i + 1)) = V2 := fun hbad => good.out (by unfold lawErr; rw [if_neg hq, if_neg hbad])
            unfold lawBad at e2 e0
            replace e2 := Lib.hid e2
            replace e0 := Lib.hid e0
            by_cases hl0 : x.level < 0
            · have hz := Lib.hid (e2.out (.inl hl0))
              go_wp2
              go_ret
              exact fin.out _ _ _ rfl hz.out K2
            by_cases hl8 : 8 < x.level
            · have hz := Lib.hid (e2.out (.inr (.inl hl8)))
              go_wp2
              go_ret
              exact fin.out _ _ _ rfl hz.out K2
            clear bad good
            go_wp2_with fail
            refine (council_within_any _ _ _ _).mono ?_
            rintro e w2 ⟨rfl, k2⟩
            replace B2 := B2.kpN k2
            have cb := fun i => B2.cell i
            replace K2 := K2.thenN k2 (Nat.le_refl _)
            replace K3 := K3.thenN k2 (Nat.le_refl _)
            clear k2
            cases hb1 : bt x.window 0 1073741824
            · have hz := Lib.hid (e2.out (by have := bt_false hb1; omega))
              go_wp2
              go_ret
              exact fin.out _ _ _ rfl hz.out K2
            replace hb1 := Lib.hid (bt_true hb1)
            go_wp2_with fail
            refine (council_within_any _ _ _ _).mono ?_
            rintro e w2 ⟨rfl, k2⟩
            replace B2 := B2.kpN k2
            have cb := fun i => B2.cell i
            replace K2 := K2.thenN k2 (Nat.le_refl _)
            replace K3 := K3.thenN k2 (Nat.le_refl _)
            clear k2
            cases hb2 : bt x.quorum 0 1000
            · have hz := Lib.hid (e2.out (by have := bt_false hb2; omega))
              go_wp2
              go_ret
              exact fin.out _ _ _ rfl hz.out K2
            replace hb2 := Lib.hid (bt_true hb2)
            go_wp2_with fail
            refine (council_within_any _ _ _ _).mono ?_
            rintro e w2 ⟨rfl, k2⟩
            replace B2 := B2.kpN k2
            have cb := fun i => B2.cell i
            replace K2 := K2.thenN k2 (Nat.le_refl _)
            replace K3 := K3.thenN k2 (Nat.le_refl _)
            clear k2
            cases hb3 : bt x.share 0 1000
            · have hz := Lib.hid (e2.out (by have := bt_false hb3; omega))
              go_wp2
              go_ret
              exact fin.out _ _ _ rfl hz.out K2
            replace hb3 := Lib.hid (bt_true hb3)
            have hg := Lib.hid (e0.out (by have := hb1.out; have := hb2.out; have := hb3.out; omega))
            go_wp2
            go_roundw
            case rel => exact ⟨i + 1, x.act, rfl, rfl, h7.out, hg.out, K3⟩
            case measure => have := h7.out; simp [intOf]; omega
        · have he : i = c.laws.length := by omega
          have hi' : ¬ (i : Int) < (c.laws.length : Int) := by omega
          rw [he, List.drop_length] at hj
          have hj2 := Lib.hid (show V2 = 0 from hj.symm)
          replace hA := hA.kpN K1
          replace hV := hV.kpN K1
          replace KK := KK.thenN K1 (Nat.le_refl _)
          have ca := fun i => hA.cell i
          have hl0 := Lib.hid (show chkLaws 0 c.laws = 0 by rw [← hV2.out]; exact hj2.out)
          clear h7 hi hj hL fl hV2 K1
          subst he
          by_cases h8 : 8 < c.levels.length
          · have h8' : 8 < (c.levels.length : Int) := by omega
            have hz := Lib.hid (show 8 = checkC c by unfold checkC; rw [if_neg h0.out, if_neg h1.out, if_neg (by simpa using hm0.out), if_neg h16.out, if_neg (by simpa using hl0.out), if_pos h8])
            go_wp2
            go_ret
            exact fin.out _ _ _ rfl hz.out KK
          have h8' : ¬ 8 < (c.levels.length : Int) := by omega
          go_wp2_with fail
          have fv := Lib.hid (fv.out hj2.out h8)
          rename World => w1
          go_loopw [94, 8] (fun v n w2 => CkAt chkLevels (checkC c) c.levels w1 v n w2) (fun v _ _ => c.levels.length - (intOf v).toNat)
          case atStart => exact ⟨0, 0, rfl, rfl, by omega, by simpa using fv.out.symm, Kp.refl _ _ _⟩
          case round =>
            obtain ⟨i, last, rfl, rfl, hi, hj, K1⟩ := hrel
            by_cases h7 : i < c.levels.length
            · obtain ⟨b, o, rfl, hb, -, hcc⟩ := (hV.kpN K1).at_ (by omega)
              have c0 := Rd.cell1 (f := fun y => .int .i64 y) (fun _ => rfl) hcc i h7
              have hi' : (i : Int) < (c.levels.length : Int) := by omega
              rw [chkV_drop last c.levels i h7] at hj
              clear hcc hV
              generalize c.levels[i] = x at c0 hj
              have K2 := KK.thenN K1 (Nat.le_refl _)
              clear hi
              replace h7 := Lib.hid h7
              by_cases hq : x ≤ last
              · rw [if_pos hq] at hj
                replace hj := Lib.hid hj
                go_wp2
                go_ret
                exact fin.out _ _ _ rfl hj.out K2
              · rw [if_neg hq] at hj
                by_cases hq2 : 1000000000 < x
                · rw [if_pos hq2] at hj
                  replace hj := Lib.hid hj
                  go_wp2
                  go_ret
                  exact fin.out _ _ _ rfl hj.out K2
                · rw [if_neg hq2] at hj
                  replace hj := Lib.hid hj
                  go_wp2
                  go_roundw
                  case rel => exact ⟨i + 1, x, rfl, rfl, h7.out, hj.out, K1⟩
                  case measure => have := h7.out; simp [intOf]; omega
            · have he : i = c.levels.length := by omega
              have hi' : ¬ (i : Int) < (c.levels.length : Int) := by omega
              rw [he, List.drop_length] at hj
              replace hj := Lib.hid hj
              replace KK := KK.thenN K1 (Nat.le_refl _)
              clear h7 hi hV fv K1
              subst he
              go_wp2
              go_ret
              exact fin.out _ _ _ rfl hj.out KK

set_option maxHeartbeats 800000 in
theorem council_Level_any (x : Chance) (B : Nat) (V : CV) (c : Council) (w : World) (h : CAt B w V c) :
    Calls Tryz.prog 45 #[.agg #[.slice V.am c.members.length V.cm, .slice V.al c.laws.length V.cl, .slice V.av c.levels.length V.cv], .agg #[.int .i64 x.least, .int .i64 x.most, .int .i64 x.all]] w fun e w' => e = .returned (.int .i64 (levelI c x)) ∧ Kp w.heap.size none w w' := by
  have hA := (Blk.new w 28 #[.slice V.am c.members.length V.cm, .slice V.al c.laws.length V.cl, .slice V.av c.levels.length V.cv]).alloc (.cells #[.int .i64 x.least, .int .i64 x.most, .int .i64 x.all] 34)
  have hB := Blk.newAt (w.alloc (.cells #[.slice V.am c.members.length V.cm, .slice V.al c.laws.length V.cl, .slice V.av c.levels.length V.cv] 28)) 34 #[.int .i64 x.least, .int .i64 x.most, .int .i64 x.all] (n := w.heap.size + 1) (by simp)
  have KK := Kp.new2 w (.cells #[.slice V.am c.members.length V.cm, .slice V.al c.laws.length V.cl, .slice V.av c.levels.length V.cv] 28) (.cells #[.int .i64 x.least, .int .i64 x.most, .int .i64 x.all] 34)
  obtain ⟨R, hR⟩ : ∃ R, R = levelI c x := ⟨_, rfl⟩
  rw [← hR]
  unfold levelI at hR
  replace hR := Lib.hid hR
  go_enter Tryz.func45, Tryz.ntmps45
  go_wp2_with fail
  generalize (w.alloc (.cells #[.slice V.am c.members.length V.cm, .slice V.al c.laws.length V.cl, .slice V.av c.levels.length V.cv] 28)).alloc (.cells #[.int .i64 x.least, .int .i64 x.most, .int .i64 x.all] 34) = w0 at hA hB KK ⊢
  replace h := h.kpN KK
  refine (council_Check_any B V c _ h).mono ?_
  rintro e w1 ⟨rfl, k1⟩
  replace hA := hA.kpN k1
  replace hB := hB.kpN k1
  replace h := h.kpN k1
  replace KK := KK.thenN k1 (Nat.le_refl _)
  have ca := fun i => hA.cell i
  have cb := fun i => hB.cell i
  by_cases hc : checkC c = 0
  · rw [hc]
    have hok := Lib.hid (councilOk_of hc)
    go_wp2_with fail
    refine (council_CheckChance_any x _).mono ?_
    rintro e w2 ⟨rfl, k2⟩
    replace hA := hA.kpN k2
    replace hB := hB.kpN k2
    replace h := h.kpN k2
    replace KK := KK.thenN k2 (Nat.le_refl _)
    have ca := fun i => hA.cell i
    have cb := fun i => hB.cell i
    by_cases hx : chanceErr x = 0
    · rw [hx]
      have hR2 := Lib.hid (show (levelOf c x : Int) = R by rw [hR.out, if_pos ⟨hc, hx⟩])
      have hx2 := Lib.hid hx
      clear hx hc
      go_wp2_with fail
      refine (council_level_any x B V c _ h hok.out.vlen hok.out.lev hx2.out).mono ?_
      rintro e w3 ⟨rfl, k3⟩
      replace KK := KK.thenN k3 (Nat.le_refl _)
      rw [hR2.out]
      go_wp2
      go_ret
      exact ⟨rfl, KK⟩
    · have hR2 := Lib.hid (show -1 = R by rw [hR.out, if_neg (fun q => hx q.2)])
      have hx3 : chanceErr x = 3 := by unfold chanceErr at hx ⊢; split at hx <;> simp_all
      rw [hx3]
      clear hx hc hx3
      go_wp2
      go_ret
      exact ⟨ret_int hR2.out, KK⟩
  · have hR2 := Lib.hid (show -1 = R by rw [hR.out, if_neg (fun q => hc q.1)])
    generalize checkC c = n at hc ⊢
    go_wp2
    go_ret
    exact ⟨ret_int hR2.out, KK⟩
end Go.Proofs.YtogpgnljomchcaaGreat
namespace Go.Proofs.YtogpgnljomchcaaGreat
open Go.RowKit

end Go.Proofs.YtogpgnljomchcaaGreat
