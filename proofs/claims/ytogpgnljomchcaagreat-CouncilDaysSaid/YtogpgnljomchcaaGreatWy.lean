/- council.Why: the chance of the fact by which a motion was decided. -/
import Derived.Test.YtogpgnljomchcaaGreatAs
import Derived.Test.YtogpgnljomchcaaGreatDelAll
import Derived.Test.YtogpgnljomchcaaGreatMd
import Derived.Test.YtogpgnljomchcaaGreatSn
namespace Go.Proofs.YtogpgnljomchcaaGreat
open Go.RowKit

def WhyPost (R : Chance × Int) (w : World) (e : Ending) (w' : World) : Prop := e = .returned (.tuple #[.agg #[.int .i64 R.1.least, .int .i64 R.1.most, .int .i64 R.1.all], .int .i64 R.2]) ∧ Kp w.heap.size none w w'
theorem setC0_kp {w0 w : World} {g : Nat} (q : Kp w0.heap.size none w0 w) (hg : w0.heap.size ≤ g) (a b c : Value) : Kp w0.heap.size none w0 (setC0 w g a b c) :=
  q.grown (setC0_grown w g a b c) q.size (fun k e => by injection e with e; omega)
theorem why_ret {R : Chance × Int} {x : Chance} {er : Int} {w w' : World} (h : R = (x, er)) (k : Kp w.heap.size none w w') : WhyPost R w (.returned (.tuple #[.agg #[.int .i64 x.least, .int .i64 x.most, .int .i64 x.all], .int .i64 er])) w' := by
  subst h
  exact ⟨rfl, k⟩
set_option maxRecDepth 20000 in
set_option maxHeartbeats 4000000 in
theorem council_Why_any (V : CV) (c : Council) (A : Option Addr) (cap : Nat) (l : List CItem) (m : Int) (w : World) (hc : CAt w.heap.size w V c) (hr : Rd none w 9 encItem A l.length l) (hl : l.length ≤ 1000000) :
    Calls Tryz.prog 11 #[.agg #[.slice V.am c.members.length V.cm, .slice V.al c.laws.length V.cl, .slice V.av c.levels.length V.cv], .slice A l.length cap, .int .i64 m] w (WhyPost (whyR (buildC c l) l m) w) := by
  obtain ⟨S, hS⟩ : ∃ S, S = whyR (buildC c l) l m := ⟨_, rfl⟩
  rw [← hS]
  have CB := (Blk.new w 28 #[.slice V.am c.members.length V.cm, .slice V.al c.laws.length V.cl, .slice V.av c.levels.length V.cv]).alloc (.cells #[.int .i64 0, .int .i64 0, .int .i64 0] 34)
  have RB := Blk.newAt (w.alloc (.cells #[.slice V.am c.members.length V.cm, .slice V.al c.laws.length V.cl, .slice V.av c.levels.length V.cv] 28)) 34 #[.int .i64 0, .int .i64 0, .int .i64 0] (n := w.heap.size + 1) (by simp)
  have KK := Kp.new2 w (.cells #[.slice V.am c.members.length V.cm, .slice V.al c.laws.length V.cl, .slice V.av c.levels.length V.cv] 28) (.cells #[.int .i64 0, .int .i64 0, .int .i64 0] 34)
  replace hc := hc.next KK
  replace hr := hr.kpN KK
  have hwy := fun h i hi hs => why_at (c := c) (l := l) h i hi hs
  have hrl := realOf_len l
  go_enter Tryz.func11, Tryz.ntmps11
  go_upto_region 1 with (fail)
  change Code.wp _ _ _ _ ((w.alloc (.cells #[.slice V.am c.members.length V.cm, .slice V.al c.laws.length V.cl, .slice V.av c.levels.length V.cv] 28)).alloc (.cells #[.int .i64 0, .int .i64 0, .int .i64 0] 34))
  obtain ⟨cb, hb1⟩ : ∃ q, q = w.heap.size := ⟨_, rfl⟩
  obtain ⟨rb, hb2⟩ : ∃ q, q = w.heap.size + 1 := ⟨_, rfl⟩
  rw [← hb2, ← hb1]
  rw [← hb1] at CB
  rw [← hb2] at RB
  have hrw : w.heap.size ≤ rb := by omega
  generalize (w.alloc (.cells #[.slice V.am c.members.length V.cm, .slice V.al c.laws.length V.cl, .slice V.av c.levels.length V.cv] 28)).alloc (.cells #[.int .i64 0, .int .i64 0, .int .i64 0] 34) = w1 at CB RB KK hc hr ⊢
  clear hb1 hb2
  have cc := fun i => CB.cell i
  replace hwy := Lib.hid hwy
  replace hS := Lib.hid hS
  go_wp2_with fail
  refine (build_see V c A cap l _ hc hr hl).mono ?_
  rintro e w2 ⟨v, X, -, rfl, -, hs, k2⟩
  replace hwy := hwy.out
  replace hS := hS.out
  obtain ⟨R, hR⟩ : ∃ R, R = buildC c l := ⟨_, rfl⟩
  rw [← hR] at hs hwy hS ⊢
  clear hR
  obtain ⟨x, ix, er⟩ := R
  simp only at hs hwy hS ⊢
  replace RB := RB.kpN k2
  replace hr := hr.kpN k2
  replace KK := KK.thenN k2 (Nat.le_refl _)
  clear k2 CB cc hc
  have HB := Blk.new w2 43 #[.int .i64 x.tick, .int .i64 x.real.items, .slice X.r.fa x.real.facts.length X.r.fc, .slice X.r.ma x.real.motions.length X.r.mc, .slice X.r.sa x.real.sent.length X.r.sc, .int .i64 x.drill.items, .slice X.d.fa x.drill.facts.length X.d.fc, .slice X.d.ma x.drill.motions.length X.d.mc, .slice X.d.sa x.drill.sent.length X.d.sc]
  have kh := Kp.new w2 (.cells #[.int .i64 x.tick, .int .i64 x.real.items, .slice X.r.fa x.real.facts.length X.r.fc, .slice X.r.ma x.real.motions.length X.r.mc, .slice X.r.sa x.real.sent.length X.r.sc, .int .i64 x.drill.items, .slice X.d.fa x.drill.facts.length X.d.fc, .slice X.d.ma x.drill.motions.length X.d.mc, .slice X.d.sa x.drill.sent.length X.d.sc] 43)
  replace hs := hs.next kh
  replace RB := RB.kpN kh
  replace hr := hr.kpN kh
  replace KK := KK.thenN kh (Nat.le_refl _)
  clear kh
  replace hwy := Lib.hid hwy
  replace hS := Lib.hid hS
  go_upto_region 2 with (fail)
  change Code.wp _ _ _ _ (w2.alloc (.cells #[.int .i64 x.tick, .int .i64 x.real.items, .slice X.r.fa x.real.facts.length X.r.fc, .slice X.r.ma x.real.motions.length X.r.mc, .slice X.r.sa x.real.sent.length X.r.sc, .int .i64 x.drill.items, .slice X.d.fa x.drill.facts.length X.d.fc, .slice X.d.ma x.drill.motions.length X.d.mc, .slice X.d.sa x.drill.sent.length X.d.sc] 43))
  obtain ⟨hb, hhb⟩ : ∃ q, q = w2.heap.size := ⟨_, rfl⟩
  rw [← hhb] at HB
  rw [← hhb]
  generalize w2.alloc (.cells #[.int .i64 x.tick, .int .i64 x.real.items, .slice X.r.fa x.real.facts.length X.r.fc, .slice X.r.ma x.real.motions.length X.r.mc, .slice X.r.sa x.real.sent.length X.r.sc, .int .i64 x.drill.items, .slice X.d.fa x.drill.facts.length X.d.fc, .slice X.d.ma x.drill.motions.length X.d.mc, .slice X.d.sa x.drill.sent.length X.d.sc] 43) = w3 at HB KK RB hs hr ⊢
  clear hhb
  have ch := fun i => HB.cell i
  have cr := fun i => RB.cell i
  have fr := fun i => RB.frozen i
  by_cases he : er = 0
  case neg =>
    have he' : (er == 0) = false := by simpa using he
    replace hS := Lib.hid (show S = (zChance, er) by rw [hS.out]; unfold whyR; rw [if_pos he])
    replace hs := Lib.hid hs
    replace hr := Lib.hid hr
    go_wp2_with fail
    have K9 := setC0_kp KK hrw (.int .i64 (0)) (.int .i64 (0)) (.int .i64 (0))
    have R9 := Blk.setC0 RB (.int .i64 (0)) (.int .i64 (0)) (.int .i64 (0))
    change bodyPost _ _ _ _ _ (setC0 w3 rb (.int .i64 (0)) (.int .i64 (0)) (.int .i64 (0)))
    generalize setC0 w3 rb (.int .i64 (0)) (.int .i64 (0)) (.int .i64 (0)) = w9 at K9 R9 ⊢
    have c9 := fun i => R9.cell i
    exact bodyPost_ret (v := .tuple #[.agg #[.int .i64 (0), .int .i64 (0), .int .i64 (0)], .int .i64 (er)]) (by simp [results, Tryz.results11, go_sem, c9]) rfl (why_ret hS.out K9)
  subst he
  by_cases h1 : m < 0
  · replace hS := Lib.hid (show S = (zChance, 7) by rw [hS.out]; unfold whyR; rw [if_neg (by simp), if_pos (.inl h1)])
    replace hs := Lib.hid hs
    replace hr := Lib.hid hr
    go_wp2_with fail
    have K9 := setC0_kp KK hrw (.int .i64 (0)) (.int .i64 (0)) (.int .i64 (0))
    have R9 := Blk.setC0 RB (.int .i64 (0)) (.int .i64 (0)) (.int .i64 (0))
    change bodyPost _ _ _ _ _ (setC0 w3 rb (.int .i64 (0)) (.int .i64 (0)) (.int .i64 (0)))
    generalize setC0 w3 rb (.int .i64 (0)) (.int .i64 (0)) (.int .i64 (0)) = w9 at K9 R9 ⊢
    have c9 := fun i => R9.cell i
    exact bodyPost_ret (v := .tuple #[.agg #[.int .i64 (0), .int .i64 (0), .int .i64 (0)], .int .i64 (7)]) (by simp [results, Tryz.results11, go_sem, c9]) rfl (why_ret hS.out K9)
  by_cases h2 : (x.real.motions.length : Int) ≤ m
  · replace hS := Lib.hid (show S = (zChance, 7) by rw [hS.out]; unfold whyR; rw [if_neg (by simp), if_pos (.inr h2)])
    replace hs := Lib.hid hs
    replace hr := Lib.hid hr
    go_wp2_with fail
    have K9 := setC0_kp KK hrw (.int .i64 (0)) (.int .i64 (0)) (.int .i64 (0))
    have R9 := Blk.setC0 RB (.int .i64 (0)) (.int .i64 (0)) (.int .i64 (0))
    change bodyPost _ _ _ _ _ (setC0 w3 rb (.int .i64 (0)) (.int .i64 (0)) (.int .i64 (0)))
    generalize setC0 w3 rb (.int .i64 (0)) (.int .i64 (0)) (.int .i64 (0)) = w9 at K9 R9 ⊢
    have c9 := fun i => R9.cell i
    exact bodyPost_ret (v := .tuple #[.agg #[.int .i64 (0), .int .i64 (0), .int .i64 (0)], .int .i64 (7)]) (by simp [results, Tryz.results11, go_sem, c9]) rfl (why_ret hS.out K9)
  obtain ⟨i, rfl⟩ := Int.eq_ofNat_of_zero_le (show 0 ≤ m by omega)
  have hi : i < x.real.motions.length := by omega
  have hii : (i : Int) < (x.real.motions.length : Int) := by omega
  obtain ⟨b, o, Am, qm, eM, -, -, hcm⟩ := hs.r.mot i hi
  have c3 : w3.cell? ⟨b, o + (i * 8 + 3), none⟩ = some (.int .i64 x.real.motions[i].state) := hcm 3 _ rfl
  have c7 : w3.cell? ⟨b, o + (i * 8 + 7), none⟩ = some (.int .i64 x.real.motions[i].fact) := hcm 7 _ rfl
  rw [← Nat.add_assoc] at c3 c7
  have eD : motD x.real (i : Int) = x.real.motions[i] := by
    unfold motD
    rw [Int.toNat_natCast, List.getD_eq_getElem?_getD, List.getElem?_eq_getElem hi]
    rfl
  have hS2 : S = if x.real.motions[i].state = 1 then (zChance, 10) else (((realOf l).getD x.real.motions[i].fact.toNat default).chance, 0) := by
    rw [hS.out]; unfold whyR
    rw [if_neg (by simp), if_neg (show ¬ ((i : Int) < 0 ∨ (x.real.motions.length : Int) ≤ (i : Int)) by omega), eD]
  replace hwy := hwy.out rfl i hi
  clear hS eD hcm
  generalize x.real.motions[i] = mo at c3 c7 hS2 hwy
  clear hs
  obtain ⟨⟨fa, fc, ma, mc, sa, sc, vo⟩, xd⟩ := X
  have eM' : ma = some ⟨b, o, none⟩ := eM
  subst eM'
  clear eM
  by_cases h3 : mo.state = 1
  · have h3' : (mo.state == 1) = true := by simpa using h3
    rw [if_pos h3] at hS2
    have hS := Lib.hid hS2
    replace hr := Lib.hid hr
    clear hS2 hwy c7 h3
    go_wp2_with fail
    have K9 := setC0_kp KK hrw (.int .i64 (0)) (.int .i64 (0)) (.int .i64 (0))
    have R9 := Blk.setC0 RB (.int .i64 (0)) (.int .i64 (0)) (.int .i64 (0))
    change bodyPost _ _ _ _ _ (setC0 w3 rb (.int .i64 (0)) (.int .i64 (0)) (.int .i64 (0)))
    generalize setC0 w3 rb (.int .i64 (0)) (.int .i64 (0)) (.int .i64 (0)) = w9 at K9 R9 ⊢
    have c9 := fun i => R9.cell i
    exact bodyPost_ret (v := .tuple #[.agg #[.int .i64 (0), .int .i64 (0), .int .i64 (0)], .int .i64 (10)]) (by simp [results, Tryz.results11, go_sem, c9]) rfl (why_ret hS.out K9)
  have h3' : (mo.state == 1) = false := by simpa using h3
  rw [if_neg h3] at hS2
  obtain ⟨j, hj, hf, -⟩ := hwy h3
  rw [hf, Int.toNat_natCast, List.getD_eq_getElem?_getD, List.getElem?_eq_getElem hj] at hS2
  rw [hf] at c7
  have hS3 : S = ((realOf l)[j].chance, 0) := hS2
  clear hS2 hwy h3 hf
  obtain ⟨rl, hrl2⟩ : ∃ q, q = realOf l := ⟨_, rfl⟩
  have hrl16 : rl.length ≤ 1000000 := by rw [hrl2]; omega
  replace hS3 : ∃ (hj : j < rl.length), S = (rl[j].chance, 0) := ⟨by rw [hrl2]; exact hj, by subst hrl2; exact hS3⟩
  obtain ⟨hj3, hS4⟩ := hS3
  clear hj
  have hS := Lib.hid hS4
  clear hS4 hrl
  replace c7 := Lib.hid c7
  replace RB := Lib.hid RB
  replace KK := Lib.hid KK
  replace hj3 := Lib.hid hj3
  have hr3 := hr
  replace hr := Lib.hid hr
  clear cr fr
  go_wp2_with fail
  refine (cloneItem_any A cap l w3 hr3 hl).mono ?_
  rintro e w4 ⟨v4, rfl, own4, k4⟩
  clear hr3 c3 ch
  go_wp2_with fail
  refine (deleteItem_any w3.heap.size v4 l w4 own4 k4.size hl).mono ?_
  rintro e w5 ⟨A2, cap2, rfl, r5, k5⟩
  rw [← hrl2] at r5 ⊢
  have k45 := k4.trans k5
  replace HB := HB.kpN k45
  replace RB := RB.out.kpN k45
  replace KK := KK.out.thenN k45 (Nat.le_refl _)
  replace c7 := k45.cellN c7.out
  clear k4 k5 k45 own4 hr hrl2
  replace hj3 := hj3.out
  have ch := fun i => HB.cell i
  have cr := fun i => RB.cell i
  have fr := fun i => RB.frozen i
  obtain ⟨b5, o5, eA, -, -, hc5⟩ := r5.at_ (by omega)
  subst eA
  have d6 : w5.cell? ⟨b5, o5 + j * 9 + 6, none⟩ = some (.int .i64 rl[j].chance.least) := by rw [Nat.add_assoc]; exact hc5 j hj3 6 _ rfl
  have d7 : w5.cell? ⟨b5, o5 + j * 9 + 7, none⟩ = some (.int .i64 rl[j].chance.most) := by rw [Nat.add_assoc]; exact hc5 j hj3 7 _ rfl
  have d8 : w5.cell? ⟨b5, o5 + j * 9 + 8, none⟩ = some (.int .i64 rl[j].chance.all) := by rw [Nat.add_assoc]; exact hc5 j hj3 8 _ rfl
  have hjj : (j : Int) < (rl.length : Int) := by omega
  replace hS := hS.out
  generalize rl[j].chance = hh at d6 d7 d8 hS
  replace hS := Lib.hid hS
  clear hc5 r5 HB
  go_wp2_with fail
  have K9 := setC0_kp KK hrw (.int .i64 (hh.least)) (.int .i64 (hh.most)) (.int .i64 (hh.all))
  have R9 := Blk.setC0 RB (.int .i64 (hh.least)) (.int .i64 (hh.most)) (.int .i64 (hh.all))
  change bodyPost _ _ _ _ _ (setC0 w5 rb (.int .i64 (hh.least)) (.int .i64 (hh.most)) (.int .i64 (hh.all)))
  generalize setC0 w5 rb (.int .i64 (hh.least)) (.int .i64 (hh.most)) (.int .i64 (hh.all)) = w9 at K9 R9 ⊢
  have c9 := fun i => R9.cell i
  exact bodyPost_ret (v := .tuple #[.agg #[.int .i64 (hh.least), .int .i64 (hh.most), .int .i64 (hh.all)], .int .i64 (0)]) (by simp [results, Tryz.results11, go_sem, c9]) rfl (why_ret hS.out K9)
end Go.Proofs.YtogpgnljomchcaaGreat
