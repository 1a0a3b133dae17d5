/- council.Why: the chance of the fact by which a motion was decided. bolideref09.Why: the chance of the fact by which a motion was decided. -/
import Derived.Test.YtogpgnljomchcaaGreatAsAll
import Derived.Test.YtogpgnljomchcaaGreatDelAll
import Derived.Test.YtogpgnljomchcaaGreatMd
import Derived.Test.YtogpgnljomchcaaGreatSn
import Derived.Test.YtogpgnljomchcaaGreatRefBuildAll
namespace Go.Proofs.YtogpgnljomchcaaGreat
open Go.RowKit

def WhyPost (R : Chance × Int) (w : World) (e : Ending) (w' : World) : Prop := e = .returned (.tuple #[.agg #[.int .i64 R.1.least, .int .i64 R.1.most, .int .i64 R.1.all], .int .i64 R.2]) ∧ Kp w.heap.size none w w'
theorem setC0_kp {w0 w : World} {g : Nat} (q : Kp w0.heap.size none w0 w) (hg : w0.heap.size ≤ g) (a b c : Value) : Kp w0.heap.size none w0 (setC0 w g a b c) :=
  q.grown (setC0_grown w g a b c) q.size (fun k e => by injection e with e; omega)
theorem why_ret {R : Chance × Int} {x : Chance} {er : Int} {w w' : World} (h : R = (x, er)) (k : Kp w.heap.size none w w') : WhyPost R w (.returned (.tuple #[.agg #[.int .i64 x.least, .int .i64 x.most, .int .i64 x.all], .int .i64 er])) w' := by
  subst h
  exact ⟨rfl, k⟩
set_option maxRecDepth 20000 in
set_option maxHeartbeats 4000000 in
theorem council_Why_any (V : CV) (c : Council) (A : Option Addr) (cap : Nat) (l : List CItem) (m : Int) (w : World) (hc : CAt w.heap.size w V c) (hr : Rd none w 9 encItem A l.length l) (hl : l.length ≤ 1000000) :
    Calls Tryz.prog 11 #[.agg #[.slice V.am c.members.length V.cm, .slice V.al c.laws.length V.cl, .slice V.av c.levels.length V.cv], .slice A l.length cap, .int .i64 m] w (WhyPost (whyR (buildC c l) l m) w) := by
  obtain ⟨S, hS⟩ : ∃ S, S = whyR (buildC c l) l m := ⟨_, rfl⟩
  rw [← hS]
  have CB := (Blk.new w 28 #[.slice V.am c.members.length V.cm, .slice V.al c.laws.length V.cl, .slice V.av c.levels.length V.cv]).alloc (.cells #[.int .i64 0, .int .i64 0, .int .i64 0] 34)
  have RB := Blk.newAt (w.alloc (.cells #[.slice V.am c.members.length V.cm, .slice V.al c.laws.length V.cl, .slice V.av c.levels.length V.cv] 28)) 34 #[.int .i64 0, .int .i64 0, .int .i64 0] (n := w.heap.size + 1) (by simp)
  have KK := Kp.new2 w (.cells #[.slice V.am c.members.length V.cm, .slice V.al c.laws.length V.cl, .slice V.av c.levels.length V.cv] 28) (.cells #[.int .i64 0, .int .i64 0, .int .i64 0] 34)
  replace hc := hc.next KK
  replace hr := hr.kpN KK
  have hwy := fun h i hi hs => why_at (c := c) (l := l) h i hi hs
  have hrl := realOf_len l
  go_enter Tryz.func11, Tryz.ntmps11
  go_upto_region 1 with (fail)
  change Code.wp _ _ _ _ ((w.alloc (.cells #[.slice V.am c.members.length V.cm, .slice V.al c.laws.length V.cl, .slice V.av c.levels.length V.cv] 28)).alloc (.cells #[.int .i64 0, .int .i64 0, .int .i64 0] 34))
  obtain ⟨cb, hb1⟩ : ∃ q, q = w.heap.size := ⟨_, rfl⟩
  obtain ⟨rb, hb2⟩ : ∃ q, q = w.heap.size + 1 := ⟨_, rfl⟩
  rw [← hb2, ← hb1]
  rw [← hb1] at CB
  rw [← hb2] at RB
  have hrw : w.heap.size ≤ rb := by omega
  generalize (w.alloc (.cells #[.slice V.am c.members.length V.cm, .slice V.al c.laws.length V.cl, .slice V.av c.levels.length V.cv] 28)).alloc (.cells #[.int .i64 0, .int .i64 0, .int .i64 0] 34) = w1 at CB RB KK hc hr ⊢
  clear hb1 hb2
  have cc := fun i => CB.cell i
  replace hwy := Lib.hid hwy
  replace hS := Lib.hid hS
  go_wp2_with fail
  refine (build_see V c A cap l _ hc hr hl).mono ?_
  rintro e w2 ⟨v, X, -, rfl, -, hs, k2⟩
  replace hwy := hwy.out
  replace hS := hS.out
  obtain ⟨R, hR⟩ : ∃ R, R = buildC c l := ⟨_, rfl⟩
  rw [← hR] at hs hwy hS ⊢
  clear hR
  obtain ⟨x, ix, er⟩ := R
  simp only at hs hwy hS ⊢
  replace RB := RB.kpN k2
  replace hr := hr.kpN k2
  replace KK := KK.thenN k2 (Nat.le_refl _)
  clear k2 CB cc hc
  have HB := Blk.new w2 43 #[.int .i64 x.tick, .int .i64 x.real.items, .slice X.r.fa x.real.facts.length X.r.fc, .slice X.r.ma x.real.motions.length X.r.mc, .slice X.r.sa x.real.sent.length X.r.sc, .int .i64 x.drill.items, .slice X.d.fa x.drill.facts.length X.d.fc, .slice X.d.ma x.drill.motions.length X.d.mc, .slice X.d.sa x.drill.sent.length X.d.sc]
  have kh := Kp.new w2 (.cells #[.int .i64 x.tick, .int .i64 x.real.items, .slice X.r.fa x.real.facts.length X.r.fc, .slice X.r.ma x.real.motions.length X.r.mc, .slice X.r.sa x.real.sent.length X.r.sc, .int .i64 x.drill.items, .slice X.d.fa x.drill.facts.length X.d.fc, .slice X.d.ma x.drill.motions.length X.d.mc, .slice X.d.sa x.drill.sent.length X.d.sc] 43)
  replace hs := hs.next kh
  replace RB := RB.kpN kh
  replace hr := hr.kpN kh
  replace KK := KK.thenN kh (Nat.le_refl _)
  clear kh
  replace hwy := Lib.hid hwy
  replace hS := Lib.hid hS
  go_upto_region 2 with (fail)
  change Code.wp _ _ _ _ (w2.alloc (.cells #[.int .i64 x.tick, .int .i64 x.real.items, .slice X.r.fa x.real.facts.length X.r.fc, .slice X.r.ma x.real.motions.length X.r.mc, .slice X.r.sa x.real.sent.length X.r.sc, .int .i64 x.drill.items, .slice X.d.fa x.drill.facts.length X.d.fc, .slice X.d.ma x.drill.motions.length X.d.mc, .slice X.d.sa x.drill.sent.length X.d.sc] 43))
  obtain ⟨hb, hhb⟩ : ∃ q, q = w2.heap.size := ⟨_, rfl⟩
  rw [← hhb] at HB
  rw [← hhb]
  generalize w2.alloc (.cells #[.int .i64 x.tick, .int .i64 x.real.items, .slice X.r.fa x.real.facts.length X.r.fc, .slice X.r.ma x.real.motions.length X.r.mc, .slice X.r.sa x.real.sent.length X.r.sc, .int .i64 x.drill.items, .slice X.d.fa x.drill.facts.length X.d.fc, .slice X.d.ma x.drill.motions.length X.d.mc, .slice X.d.sa x.drill.sent.length X.d.sc] 43) = w3 at HB KK RB hs hr ⊢
  clear hhb
  have ch := fun i => HB.cell i
  have cr := fun i => RB.cell i
  have fr := fun i => RB.frozen i
  by_cases he : er = 0
  case neg =>
    have he' : (er == 0) = false := by simpa using he
    replace hS := Lib.hid (show S = (zChance, er) by rw [hS.out]; unfold whyR; rw [if_pos he])
    replace hs := Lib.hid hs
    replace hr := Lib.hid hr
    go_wp2_with fail
    have K9 := setC0_kp KK hrw (.int .i64 (0)) (.int .i64 (0)) (.int .i64 (0))
    have R9 := Blk.setC0 RB (.int .i64 (0)) (.int .i64 (0)) (.int .i64 (0))
    change bodyPost _ _ _ _ _ (setC0 w3 rb (.int .i64 (0)) (.int .i64 (0)) (.int .i64 (0)))
    generalize setC0 w3 rb (.int .i64 (0)) (.int .i64 (0)) (.int .i64 (0)) = w9 at K9 R9 ⊢
    have c9 := fun i => R9.cell i
    exact bodyPost_ret (v := .tuple #[.agg #[.int .i64 (0), .int .i64 (0), .int .i64 (0)], .int .i64 (er)]) (by simp [results, Tryz.results11, go_sem, c9]) rfl (why_ret hS.out K9)
  subst he
  by_cases h1 : m < 0
  · replace hS := Lib.hid (show S = (zChance, 7) by rw [hS.out]; unfold whyR; rw [if_neg (by simp), if_pos (.inl h1)])
    replace hs := Lib.hid hs
    replace hr := Lib.hid hr
    go_wp2_with fail
    have K9 := setC0_kp KK hrw (.int .i64 (0)) (.int .i64 (0)) (.int .i64 (0))
    have R9 := Blk.setC0 RB (.int .i64 (0)) (.int .i64 (0)) (.int .i64 (0))
    change bodyPost _ _ _ _ _ (setC0 w3 rb (.int .i64 (0)) (.int .i64 (0)) (.int .i64 (0)))
    generalize setC0 w3 rb (.int .i64 (0)) (.int .i64 (0)) (.int .i64 (0)) = w9 at K9 R9 ⊢
    have c9 := fun i => R9.cell i
    exact bodyPost_ret (v := .tuple #[.agg #[.int .i64 (0), .int .i64 (0), .int .i64 (0)], .int .i64 (7)]) (by simp [results, Tryz.results11, go_sem, c9]) rfl (why_ret hS.out K9)
  by_cases h2 : (x.real.motions.length : Int) ≤ m
  · replace hS := Lib.hid (show S = (zChance, 7) by rw [hS.out]; unfold whyR; rw [if_neg (by simp), if_pos (.inr h2)])
    replace hs := Lib.hid hs
    replace hr := Lib.hid hr
    go_wp2_with fail
    have K9 := setC0_kp KK hrw (.int .i64 (0)) (.int .i64 (0)) (.int .i64 (0))
    have R9 := Blk.setC0 RB (.int .i64 (0)) (.int .i64 (0)) (.int .i64 (0))
    change bodyPost _ _ _ _ _ (setC0 w3 rb (.int .i64 (0)) (.int .i64 (0)) (.int .i64 (0)))
    generalize setC0 w3 rb (.int .i64 (0)) (.int .i64 (0)) (.int .i64 (0)) = w9 at K9 R9 ⊢
    have c9 := fun i => R9.cell i
    exact bodyPost_ret (v := .tuple #[.agg #[.int .i64 (0), .int .i64 (0), .int .i64 (0)], .int .i64 (7)]) (by simp [results, Tryz.results11, go_sem, c9]) rfl (why_ret hS.out K9)
  obtain ⟨i, rfl⟩ := Int.eq_ofNat_of_zero_le (show 0 ≤ m by omega)
  have hi : i < x.real.motions.length := by omega
  have hii : (i : Int) < (x.real.motions.length : Int) := by omega
  obtain ⟨b, o, Am, qm, eM, -, -, hcm⟩ := hs.r.mot i hi
  have c3 : w3.cell? ⟨b, o + (i * 8 + 3), none⟩ = some (.int .i64 x.real.motions[i].state) := hcm 3 _ rfl
  have c7 : w3.cell? ⟨b, o + (i * 8 + 7), none⟩ = some (.int .i64 x.real.motions[i].fact) := hcm 7 _ rfl
  rw [← Nat.add_assoc] at c3 c7
  have eD : motD x.real (i : Int) = x.real.motions[i] := by
    unfold motD
    rw [Int.toNat_natCast, List.getD_eq_getElem?_getD, List.getElem?_eq_getElem hi]
    rfl
  have hS2 : S = if x.real.motions[i].state = 1 then (zChance, 10) else (((realOf l).getD x.real.motions[i].fact.toNat default).chance, 0) := by
    rw [hS.out]; unfold whyR
    rw [if_neg (by simp), if_neg (show ¬ ((i : Int) < 0 ∨ (x.real.motions.length : Int) ≤ (i : Int)) by omega), eD]
  replace hwy := hwy.out rfl i hi
  clear hS eD hcm
  generalize x.real.motions[i] = mo at c3 c7 hS2 hwy
  clear hs
  obtain ⟨⟨fa, fc, ma, mc, sa, sc, vo⟩, xd⟩ := X
  have eM' : ma = some ⟨b, o, none⟩ := eM
  subst eM'
  clear eM
  by_cases h3 : mo.state = 1
  · have h3' : (mo.state == 1) = true := by simpa using h3
    rw [if_pos h3] at hS2
    have hS := Lib.hid hS2
    replace hr := Lib.hid hr
    clear hS2 hwy c7 h3
    go_wp2_with fail
    have K9 := setC0_kp KK hrw (.int .i64 (0)) (.int .i64 (0)) (.int .i64 (0))
    have R9 := Blk.setC0 RB (.int .i64 (0)) (.int .i64 (0)) (.int .i64 (0))
    change bodyPost _ _ _ _ _ (setC0 w3 rb (.int .i64 (0)) (.int .i64 (0)) (.int .i64 (0)))
    generalize setC0 w3 rb (.int .i64 (0)) (.int .i64 (0)) (.int .i64 (0)) = w9 at K9 R9 ⊢
    have c9 := fun i => R9.cell i
    exact bodyPost_ret (v := .tuple #[.agg #[.int .i64 (0), .int .i64 (0), .int .i64 (0)], .int .i64 (10)]) (by simp [results, Tryz.results11, go_sem, c9]) rfl (why_ret hS.out K9)
  have h3' : (mo.state == 1) = false := by simpa using h3
  rw [if_neg h3] at hS2
  obtain ⟨j, hj, hf, -⟩ := hwy h3
  rw [hf, Int.toNat_natCast, List.getD_eq_getElem?_getD, List.getElem?_eq_getElem hj] at hS2
  rw [hf] at c7
  have hS3 : S = ((realOf l)[j].chance, 0) := hS2
  clear hS2 hwy h3 hf
  obtain ⟨rl, hrl2⟩ : ∃ q, q = realOf l := ⟨_, rfl⟩
  have hrl16 : rl.length ≤ 1000000 := by rw [hrl2]; omega
  replace hS3 : ∃ (hj : j < rl.length), S = (rl[j].chance, 0) := ⟨by rw [hrl2]; exact hj, by subst hrl2; exact hS3⟩
  obtain ⟨hj3, hS4⟩ := hS3
  clear hj
  have hS := Lib.hid hS4
  clear hS4 hrl
  replace c7 := Lib.hid c7
  replace RB := Lib.hid RB
  replace KK := Lib.hid KK
  replace hj3 := Lib.hid hj3
  have hr3 := hr
  replace hr := Lib.hid hr
  clear cr fr
  go_wp2_with fail
  refine (cloneItem_any A cap l w3 hr3 hl).mono ?_
  rintro e w4 ⟨v4, rfl, own4, k4⟩
  clear hr3 c3 ch
  go_wp2_with fail
  refine (deleteItem_any w3.heap.size v4 l w4 own4 k4.size hl).mono ?_
  rintro e w5 ⟨A2, cap2, rfl, r5, k5⟩
  rw [← hrl2] at r5 ⊢
  have k45 := k4.trans k5
  replace HB := HB.kpN k45
  replace RB := RB.out.kpN k45
  replace KK := KK.out.thenN k45 (Nat.le_refl _)
  replace c7 := k45.cellN c7.out
  clear k4 k5 k45 own4 hr hrl2
  replace hj3 := hj3.out
  have ch := fun i => HB.cell i
  have cr := fun i => RB.cell i
  have fr := fun i => RB.frozen i
  obtain ⟨b5, o5, eA, -, -, hc5⟩ := r5.at_ (by omega)
  subst eA
  have d6 : w5.cell? ⟨b5, o5 + j * 9 + 6, none⟩ = some (.int .i64 rl[j].chance.least) := by rw [Nat.add_assoc]; exact hc5 j hj3 6 _ rfl
  have d7 : w5.cell? ⟨b5, o5 + j * 9 + 7, none⟩ = some (.int .i64 rl[j].chance.most) := by rw [Nat.add_assoc]; exact hc5 j hj3 7 _ rfl
  have d8 : w5.cell? ⟨b5, o5 + j * 9 + 8, none⟩ = some (.int .i64 rl[j].chance.all) := by rw [Nat.add_assoc]; exact hc5 j hj3 8 _ rfl
  have hjj : (j : Int) < (rl.length : Int) := by omega
  replace hS := hS.out
  generalize rl[j].chance = hh at d6 d7 d8 hS
  replace hS := Lib.hid hS
  clear hc5 r5 HB
  go_wp2_with fail
  have K9 := setC0_kp KK hrw (.int .i64 (hh.least)) (.int .i64 (hh.most)) (.int .i64 (hh.all))
  have R9 := Blk.setC0 RB (.int .i64 (hh.least)) (.int .i64 (hh.most)) (.int .i64 (hh.all))
  change bodyPost _ _ _ _ _ (setC0 w5 rb (.int .i64 (hh.least)) (.int .i64 (hh.most)) (.int .i64 (hh.all)))
  generalize setC0 w5 rb (.int .i64 (hh.least)) (.int .i64 (hh.most)) (.int .i64 (hh.all)) = w9 at K9 R9 ⊢
  have c9 := fun i => R9.cell i
  exact bodyPost_ret (v := .tuple #[.agg #[.int .i64 (hh.least), .int .i64 (hh.most), .int .i64 (hh.all)], .int .i64 (0)]) (by simp [results, Tryz.results11, go_sem, c9]) rfl (why_ret hS.out K9)
end Go.Proofs.YtogpgnljomchcaaGreat
namespace Go.Proofs.YtogpgnljomchcaaGreat
open Go.RowKit

theorem realOf_take_succ (l : List CItem) (i : Nat) (hi : i < l.length) : realOf (l.take (i + 1)) = if l[i].drill = true then realOf (l.take i) else realOf (l.take i) ++ [l[i]] := by
  unfold realOf
  rw [List.take_succ_eq_append_getElem hi, List.filter_append, List.filter_cons, List.filter_nil]
  cases l[i].drill <;> simp
theorem realOf_at (l : List CItem) (i : Nat) (hi : i < l.length) (hd : l[i].drill = false) : ∃ h : (realOf (l.take i)).length < (realOf l).length, (realOf l)[(realOf (l.take i)).length] = l[i] := by
  have e : realOf l = realOf (l.take i) ++ l[i] :: realOf (l.drop (i + 1)) := by
    conv => lhs; rw [← List.take_append_drop i l, List.drop_eq_getElem_cons hi]
    unfold realOf
    rw [List.filter_append, List.filter_cons, if_pos (by rw [hd]; rfl)]
  refine ⟨by rw [e]; simp, ?_⟩
  simp only [e]
  simp
set_option maxRecDepth 20000 in
set_option maxHeartbeats 4000000 in
theorem ref_Why_any (V : CV) (c : Council) (A : Option Addr) (cap : Nat) (l : List CItem) (m : Int) (w : World) (hc : CAt w.heap.size w V c) (hr : Rd none w 9 encItem A l.length l) (hl : l.length ≤ 1000000) :
    Calls Tryz.prog 22 #[.agg #[.slice V.am c.members.length V.cm, .slice V.al c.laws.length V.cl, .slice V.av c.levels.length V.cv], .slice A l.length cap, .int .i64 m] w (WhyPost (whyR (buildC c l) l m) w) := by
  obtain ⟨S, hS⟩ : ∃ S, S = whyR (buildC c l) l m := ⟨_, rfl⟩
  rw [← hS]
  have CB := (Blk.new w 28 #[.slice V.am c.members.length V.cm, .slice V.al c.laws.length V.cl, .slice V.av c.levels.length V.cv]).alloc (.cells #[.int .i64 0, .int .i64 0, .int .i64 0] 34)
  have RB := Blk.newAt (w.alloc (.cells #[.slice V.am c.members.length V.cm, .slice V.al c.laws.length V.cl, .slice V.av c.levels.length V.cv] 28)) 34 #[.int .i64 0, .int .i64 0, .int .i64 0] (n := w.heap.size + 1) (by simp)
  have KK := Kp.new2 w (.cells #[.slice V.am c.members.length V.cm, .slice V.al c.laws.length V.cl, .slice V.av c.levels.length V.cv] 28) (.cells #[.int .i64 0, .int .i64 0, .int .i64 0] 34)
  replace hc := hc.next KK
  replace hr := hr.kpN KK
  have hwy := fun h i hi hs => why_at (c := c) (l := l) h i hi hs
  have hrl := realOf_len l
  go_enter Tryz.func22, Tryz.ntmps22
  go_upto_region 1 with (fail)
  change Code.wp _ _ _ _ ((w.alloc (.cells #[.slice V.am c.members.length V.cm, .slice V.al c.laws.length V.cl, .slice V.av c.levels.length V.cv] 28)).alloc (.cells #[.int .i64 0, .int .i64 0, .int .i64 0] 34))
  obtain ⟨cb, hb1⟩ : ∃ q, q = w.heap.size := ⟨_, rfl⟩
  obtain ⟨rb, hb2⟩ : ∃ q, q = w.heap.size + 1 := ⟨_, rfl⟩
  rw [← hb2, ← hb1]
  rw [← hb1] at CB
  rw [← hb2] at RB
  have hrw : w.heap.size ≤ rb := by omega
  generalize (w.alloc (.cells #[.slice V.am c.members.length V.cm, .slice V.al c.laws.length V.cl, .slice V.av c.levels.length V.cv] 28)).alloc (.cells #[.int .i64 0, .int .i64 0, .int .i64 0] 34) = w1 at CB RB KK hc hr ⊢
  clear hb1 hb2
  have cc := fun i => CB.cell i
  replace hwy := Lib.hid hwy
  replace hS := Lib.hid hS
  go_wp2_with fail
  refine (ref_build_see V c A cap l _ hc hr hl).mono ?_
  rintro e w2 ⟨v, X, -, rfl, -, hs, k2⟩
  replace hwy := hwy.out
  replace hS := hS.out
  obtain ⟨R, hR⟩ : ∃ R, R = buildC c l := ⟨_, rfl⟩
  rw [← hR] at hs hwy hS ⊢
  clear hR
  obtain ⟨x, ix, er⟩ := R
  simp only at hs hwy hS ⊢
  replace RB := RB.kpN k2
  replace hr := hr.kpN k2
  replace KK := KK.thenN k2 (Nat.le_refl _)
  clear k2 CB cc hc
  have HB := Blk.new w2 43 #[.int .i64 x.tick, .int .i64 x.real.items, .slice X.r.fa x.real.facts.length X.r.fc, .slice X.r.ma x.real.motions.length X.r.mc, .slice X.r.sa x.real.sent.length X.r.sc, .int .i64 x.drill.items, .slice X.d.fa x.drill.facts.length X.d.fc, .slice X.d.ma x.drill.motions.length X.d.mc, .slice X.d.sa x.drill.sent.length X.d.sc]
  have kh := Kp.new w2 (.cells #[.int .i64 x.tick, .int .i64 x.real.items, .slice X.r.fa x.real.facts.length X.r.fc, .slice X.r.ma x.real.motions.length X.r.mc, .slice X.r.sa x.real.sent.length X.r.sc, .int .i64 x.drill.items, .slice X.d.fa x.drill.facts.length X.d.fc, .slice X.d.ma x.drill.motions.length X.d.mc, .slice X.d.sa x.drill.sent.length X.d.sc] 43)
  replace hs := hs.next kh
  replace RB := RB.kpN kh
  replace hr := hr.kpN kh
  replace KK := KK.thenN kh (Nat.le_refl _)
  clear kh
  replace hwy := Lib.hid hwy
  replace hS := Lib.hid hS
  go_upto_region 2 with (fail)
  change Code.wp _ _ _ _ (w2.alloc (.cells #[.int .i64 x.tick, .int .i64 x.real.items, .slice X.r.fa x.real.facts.length X.r.fc, .slice X.r.ma x.real.motions.length X.r.mc, .slice X.r.sa x.real.sent.length X.r.sc, .int .i64 x.drill.items, .slice X.d.fa x.drill.facts.length X.d.fc, .slice X.d.ma x.drill.motions.length X.d.mc, .slice X.d.sa x.drill.sent.length X.d.sc] 43))
  obtain ⟨hb, hhb⟩ : ∃ q, q = w2.heap.size := ⟨_, rfl⟩
  rw [← hhb] at HB
  rw [← hhb]
  generalize w2.alloc (.cells #[.int .i64 x.tick, .int .i64 x.real.items, .slice X.r.fa x.real.facts.length X.r.fc, .slice X.r.ma x.real.motions.length X.r.mc, .slice X.r.sa x.real.sent.length X.r.sc, .int .i64 x.drill.items, .slice X.d.fa x.drill.facts.length X.d.fc, .slice X.d.ma x.drill.motions.length X.d.mc, .slice X.d.sa x.drill.sent.length X.d.sc] 43) = w3 at HB KK RB hs hr ⊢
  clear hhb
  have ch := fun i => HB.cell i
  have cr := fun i => RB.cell i
  have fr := fun i => RB.frozen i
  by_cases he : er = 0
  case neg =>
    have he' : (er == 0) = false := by simpa using he
    replace hS := Lib.hid (show S = (zChance, er) by rw [hS.out]; unfold whyR; rw [if_pos he])
    replace hs := Lib.hid hs
    replace hr := Lib.hid hr
    go_wp2_with fail
    have K9 := setC0_kp KK hrw (.int .i64 (0)) (.int .i64 (0)) (.int .i64 (0))
    have R9 := Blk.setC0 RB (.int .i64 (0)) (.int .i64 (0)) (.int .i64 (0))
    change bodyPost _ _ _ _ _ (setC0 w3 rb (.int .i64 (0)) (.int .i64 (0)) (.int .i64 (0)))
    generalize setC0 w3 rb (.int .i64 (0)) (.int .i64 (0)) (.int .i64 (0)) = w9 at K9 R9 ⊢
    have c9 := fun i => R9.cell i
    exact bodyPost_ret (v := .tuple #[.agg #[.int .i64 (0), .int .i64 (0), .int .i64 (0)], .int .i64 (er)]) (by simp [results, Tryz.results22, go_sem, c9]) rfl (why_ret hS.out K9)
  subst he
  by_cases h1 : m < 0
  · replace hS := Lib.hid (show S = (zChance, 7) by rw [hS.out]; unfold whyR; rw [if_neg (by simp), if_pos (.inl h1)])
    replace hs := Lib.hid hs
    replace hr := Lib.hid hr
    go_wp2_with fail
    have K9 := setC0_kp KK hrw (.int .i64 (0)) (.int .i64 (0)) (.int .i64 (0))
    have R9 := Blk.setC0 RB (.int .i64 (0)) (.int .i64 (0)) (.int .i64 (0))
    change bodyPost _ _ _ _ _ (setC0 w3 rb (.int .i64 (0)) (.int .i64 (0)) (.int .i64 (0)))
    generalize setC0 w3 rb (.int .i64 (0)) (.int .i64 (0)) (.int .i64 (0)) = w9 at K9 R9 ⊢
    have c9 := fun i => R9.cell i
    exact bodyPost_ret (v := .tuple #[.agg #[.int .i64 (0), .int .i64 (0), .int .i64 (0)], .int .i64 (7)]) (by simp [results, Tryz.results22, go_sem, c9]) rfl (why_ret hS.out K9)
  by_cases h2 : (x.real.motions.length : Int) ≤ m
  · replace hS := Lib.hid (show S = (zChance, 7) by rw [hS.out]; unfold whyR; rw [if_neg (by simp), if_pos (.inr h2)])
    replace hs := Lib.hid hs
    replace hr := Lib.hid hr
    go_wp2_with fail
    have K9 := setC0_kp KK hrw (.int .i64 (0)) (.int .i64 (0)) (.int .i64 (0))
    have R9 := Blk.setC0 RB (.int .i64 (0)) (.int .i64 (0)) (.int .i64 (0))
    change bodyPost _ _ _ _ _ (setC0 w3 rb (.int .i64 (0)) (.int .i64 (0)) (.int .i64 (0)))
    generalize setC0 w3 rb (.int .i64 (0)) (.int .i64 (0)) (.int .i64 (0)) = w9 at K9 R9 ⊢
    have c9 := fun i => R9.cell i
    exact bodyPost_ret (v := .tuple #[.agg #[.int .i64 (0), .int .i64 (0), .int .i64 (0)], .int .i64 (7)]) (by simp [results, Tryz.results22, go_sem, c9]) rfl (why_ret hS.out K9)
  obtain ⟨i, rfl⟩ := Int.eq_ofNat_of_zero_le (show 0 ≤ m by omega)
  have hi : i < x.real.motions.length := by omega
  have hii : (i : Int) < (x.real.motions.length : Int) := by omega
  obtain ⟨b, o, Am, qm, eM, -, -, hcm⟩ := hs.r.mot i hi
  have c0 : w3.cell? ⟨b, o + (i * 8 + 0), none⟩ = some (.int .i64 x.real.motions[i].target) := hcm 0 _ rfl
  have c1 : w3.cell? ⟨b, o + (i * 8 + 1), none⟩ = some (.int .i64 x.real.motions[i].act) := hcm 1 _ rfl
  have c2 : w3.cell? ⟨b, o + (i * 8 + 2), none⟩ = some (.int .i64 x.real.motions[i].opened) := hcm 2 _ rfl
  have c3 : w3.cell? ⟨b, o + (i * 8 + 3), none⟩ = some (.int .i64 x.real.motions[i].state) := hcm 3 _ rfl
  have c4 : w3.cell? ⟨b, o + (i * 8 + 4), none⟩ = some (.int .i64 x.real.motions[i].yes) := hcm 4 _ rfl
  have c5 : w3.cell? ⟨b, o + (i * 8 + 5), none⟩ = some (.int .i64 x.real.motions[i].no) := hcm 5 _ rfl
  have c6 : w3.cell? ⟨b, o + (i * 8 + 6), none⟩ = some (.slice Am x.real.motions[i].voted.length qm) := hcm 6 _ rfl
  have c7 : w3.cell? ⟨b, o + (i * 8 + 7), none⟩ = some (.int .i64 x.real.motions[i].fact) := hcm 7 _ rfl
  rw [← Nat.add_assoc] at c0 c1 c2 c3 c4 c5 c6 c7
  rw [Nat.add_zero] at c0
  have eD : motD x.real (i : Int) = x.real.motions[i] := by
    unfold motD
    rw [Int.toNat_natCast, List.getD_eq_getElem?_getD, List.getElem?_eq_getElem hi]
    rfl
  have hS2 : S = if x.real.motions[i].state = 1 then (zChance, 10) else (((realOf l).getD x.real.motions[i].fact.toNat default).chance, 0) := by
    rw [hS.out]; unfold whyR
    rw [if_neg (by simp), if_neg (show ¬ ((i : Int) < 0 ∨ (x.real.motions.length : Int) ≤ (i : Int)) by omega), eD]
  replace hwy := hwy.out rfl i hi
  clear hS eD hcm
  obtain ⟨vl, hvl⟩ : ∃ q, q = x.real.motions[i].voted.length := ⟨_, rfl⟩
  rw [← hvl] at c6
  clear hvl
  generalize x.real.motions[i] = mo at c0 c1 c2 c3 c4 c5 c6 c7 hS2 hwy
  clear hs
  obtain ⟨⟨fa, fc, ma, mc, sa, sc, vo⟩, xd⟩ := X
  have eM' : ma = some ⟨b, o, none⟩ := eM
  subst eM'
  clear eM
  have MB := Blk.new w3 52 #[.int .i64 mo.target, .int .i64 mo.act, .int .i64 mo.opened, .int .i64 mo.state, .int .i64 mo.yes, .int .i64 mo.no, (.slice Am vl qm), .int .i64 mo.fact]
  have km := Kp.new w3 (.cells #[.int .i64 mo.target, .int .i64 mo.act, .int .i64 mo.opened, .int .i64 mo.state, .int .i64 mo.yes, .int .i64 mo.no, (.slice Am vl qm), .int .i64 mo.fact] 52)
  replace RB := RB.kpN km
  replace KK := KK.thenN km (Nat.le_refl _)
  replace hr := hr.kpN km
  clear km cr fr
  replace hS2 := Lib.hid hS2
  replace hwy := Lib.hid hwy
  replace hr := Lib.hid hr
  go_upto_region 7 with (fail)
  clear c0 c1 c2 c3 c4 c5 c6 c7 ch
  obtain ⟨mb, hmb⟩ : ∃ q, q = w3.heap.size := ⟨_, rfl⟩
  rw [← hmb] at MB ⊢
  clear hmb
  change Code.wp _ _ _ _ (w3.alloc (.cells #[.int .i64 mo.target, .int .i64 mo.act, .int .i64 mo.opened, .int .i64 mo.state, .int .i64 mo.yes, .int .i64 mo.no, (.slice Am vl qm), .int .i64 mo.fact] 52))
  generalize w3.alloc (.cells #[.int .i64 mo.target, .int .i64 mo.act, .int .i64 mo.opened, .int .i64 mo.state, .int .i64 mo.yes, .int .i64 mo.no, (.slice Am vl qm), .int .i64 mo.fact] 52) = w4 at MB RB KK hr ⊢
  have cr := fun i => RB.cell i
  have fr := fun i => RB.frozen i
  replace hS2 := hS2.out
  by_cases h3 : mo.state = 1
  · have h3' : (mo.state == 1) = true := by simpa using h3
    rw [if_pos h3] at hS2
    have hS := Lib.hid hS2
    have cm := fun i => MB.cell i
    clear hS2 hwy h3
    go_wp2_with fail
    have K9 := setC0_kp KK hrw (.int .i64 (0)) (.int .i64 (0)) (.int .i64 (0))
    have R9 := Blk.setC0 RB (.int .i64 (0)) (.int .i64 (0)) (.int .i64 (0))
    change bodyPost _ _ _ _ _ (setC0 w4 rb (.int .i64 (0)) (.int .i64 (0)) (.int .i64 (0)))
    generalize setC0 w4 rb (.int .i64 (0)) (.int .i64 (0)) (.int .i64 (0)) = w9 at K9 R9 ⊢
    have c9 := fun i => R9.cell i
    exact bodyPost_ret (v := .tuple #[.agg #[.int .i64 (0), .int .i64 (0), .int .i64 (0)], .int .i64 (10)]) (by simp [results, Tryz.results22, go_sem, c9]) rfl (why_ret hS.out K9)
  have h3' : (mo.state == 1) = false := by simpa using h3
  rw [if_neg h3] at hS2
  obtain ⟨j, hj, hf, -⟩ := hwy.out h3
  rw [hf, Int.toNat_natCast, List.getD_eq_getElem?_getD, List.getElem?_eq_getElem hj] at hS2
  have hS3 : S = ((realOf l)[j].chance, 0) := hS2
  clear hS2 hwy h3
  have MB' := MB
  rw [hf] at MB'
  clear MB hf
  have cm := fun i => MB'.cell i
  replace hS3 := Lib.hid hS3
  replace RB := Lib.hid RB
  replace KK := Lib.hid KK
  go_wp2_with fail
  go_loopw [12, 13] (fun n p wr => ∃ (u i : Nat), n = .int .i64 (u : Int) ∧ p = .int .i64 (i : Int) ∧ i ≤ l.length ∧ u = (realOf (l.take i)).length ∧ u ≤ j ∧ wr = w4) (fun _ p _ => ((l.length : Int) - intOf p).toNat)
  case atStart => exact ⟨0, 0, rfl, rfl, Nat.zero_le _, rfl, Nat.zero_le _, rfl⟩
  case round =>
    obtain ⟨u, i2, rfl, rfl, hi2, hu, huj, hwr⟩ := hrel
    subst hwr
    by_cases hi3 : i2 < l.length
    · have hi4 : (i2 : Int) < (l.length : Int) := by omega
      obtain ⟨b5, o5, eA, -, -, hc5⟩ := hr.out.at_ (by omega)
      have hsu := realOf_take_succ l i2 hi3
      have hat := realOf_at l i2 hi3
      rw [← hu] at hat
      have d2 : wr.cell? ⟨b5, o5 + i2 * 9 + 2, none⟩ = some (.bool l[i2].drill) := by rw [Nat.add_assoc]; exact hc5 i2 hi3 2 _ rfl
      have d6 : wr.cell? ⟨b5, o5 + i2 * 9 + 6, none⟩ = some (.int .i64 l[i2].chance.least) := by rw [Nat.add_assoc]; exact hc5 i2 hi3 6 _ rfl
      have d7 : wr.cell? ⟨b5, o5 + i2 * 9 + 7, none⟩ = some (.int .i64 l[i2].chance.most) := by rw [Nat.add_assoc]; exact hc5 i2 hi3 7 _ rfl
      have d8 : wr.cell? ⟨b5, o5 + i2 * 9 + 8, none⟩ = some (.int .i64 l[i2].chance.all) := by rw [Nat.add_assoc]; exact hc5 i2 hi3 8 _ rfl
      generalize l[i2] = it at hsu hat d2 d6 d7 d8
      subst eA
      clear hc5
      cases hd : it.drill with
      | true =>
        rw [hd] at d2
        rw [if_pos hd] at hsu
        replace hsu := Lib.hid hsu
        replace hu := Lib.hid hu
        clear hat
        go_wp2
        go_roundw
        case rel => exact ⟨u, i2 + 1, rfl, by congr 1, by omega, by rw [hsu.out]; exact hu.out, huj, by trivial⟩
        case measure => simp [intOf]; omega
      | false =>
        rw [hd] at d2
        rw [if_neg (by rw [hd]; decide)] at hsu
        obtain ⟨hu2, hu3⟩ := hat hd
        by_cases huj2 : u = j
        · subst huj2
          have hS : Hid (S = (it.chance, 0)) := Lib.hid (by rw [hS3.out, ← hu3])
          replace RB := RB.out
          replace KK := KK.out
          clear hu3 hsu hS3 hu
          go_wp2_with fail
          have K9 := setC0_kp KK hrw (.int .i64 (it.chance.least)) (.int .i64 (it.chance.most)) (.int .i64 (it.chance.all))
          have R9 := Blk.setC0 RB (.int .i64 (it.chance.least)) (.int .i64 (it.chance.most)) (.int .i64 (it.chance.all))
          change bodyPost _ _ _ _ _ (setC0 wr rb (.int .i64 (it.chance.least)) (.int .i64 (it.chance.most)) (.int .i64 (it.chance.all)))
          generalize setC0 wr rb (.int .i64 (it.chance.least)) (.int .i64 (it.chance.most)) (.int .i64 (it.chance.all)) = w9 at K9 R9 ⊢
          have c9 := fun i => R9.cell i
          exact bodyPost_ret (v := .tuple #[.agg #[.int .i64 (it.chance.least), .int .i64 (it.chance.most), .int .i64 (it.chance.all)], .int .i64 (0)]) (by simp [results, Tryz.results22, go_sem, c9]) rfl (why_ret hS.out K9)
        · have huj3 : ((u : Int) == (j : Int)) = false := beq_eq_false_iff_ne.2 (by omega)
          replace hsu := Lib.hid hsu
          replace hu := Lib.hid hu
          clear hu3
          go_wp2
          go_roundw
          case rel => exact ⟨u + 1, i2 + 1, by congr 1, by congr 1, by omega, by rw [hsu.out, List.length_append, ← hu.out]; rfl, by omega, by trivial⟩
          case measure => simp [intOf]; omega
    · exfalso
      have e : i2 = l.length := by omega
      rw [e, List.take_length] at hu
      omega
end Go.Proofs.YtogpgnljomchcaaGreat
