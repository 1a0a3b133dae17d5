/- council.AsOf: the house as of a tick. bolideref09.AsOf: the house as of a tick. -/
import Derived.Test.YtogpgnljomchcaaGreatDelAll
import Derived.Test.YtogpgnljomchcaaGreatRefBuildAll
import Derived.Test.YtogpgnljomchcaaGreatTree
import Derived.Deep.DeepCutAuto
import Derived.Deep.CutBlock
namespace Go.Proofs.YtogpgnljomchcaaGreat
open Go.RowKit

def noLV : LV := ⟨none, 0, none, 0, none, 0, fun _ => (none, 0)⟩
theorem LAt.none (B : Nat) (w : World) : LAt B w noLV zeroLedger :=
  ⟨Lo.nil _ _ _ _ _, Lo.nil _ _ _ _ _, Lo.nil _ _ _ _ _, fun _ => Lo.nil _ _ _ _ _, by simp [zeroLedger], by simp [zeroLedger], by simp [zeroLedger], fun i => by simp [zeroLedger, votedOf, vOf]⟩
theorem SAt.none (B : Nat) (w : World) : SAt B w ⟨noLV, noLV⟩ zeroHouse := ⟨LAt.none _ _, LAt.none _ _⟩
def AsOfPost (R : House × Int) (w : World) (e : Ending) (w' : World) : Prop :=
  ∃ X, e = .returned (.tuple #[.agg #[.int .i64 R.1.tick, .int .i64 R.1.real.items, .slice X.r.fa R.1.real.facts.length X.r.fc, .slice X.r.ma R.1.real.motions.length X.r.mc, .slice X.r.sa R.1.real.sent.length X.r.sc, .int .i64 R.1.drill.items, .slice X.d.fa R.1.drill.facts.length X.d.fc, .slice X.d.ma R.1.drill.motions.length X.d.mc, .slice X.d.sa R.1.drill.sent.length X.d.sc], .int .i64 R.2]) ∧ SAt w'.heap.size w' X R.1 ∧ Kp w.heap.size none w w'
/-- with the rows laid anew -/
def AsOfPost2 (R : House × Int) (w : World) (e : Ending) (w' : World) : Prop :=
  ∃ X v B, X = hvOf v ∧ w.heap.size ≤ B ∧ e = .returned (.tuple #[.agg #[.int .i64 R.1.tick, .int .i64 R.1.real.items, .slice X.r.fa R.1.real.facts.length X.r.fc, .slice X.r.ma R.1.real.motions.length X.r.mc, .slice X.r.sa R.1.real.sent.length X.r.sc, .int .i64 R.1.drill.items, .slice X.d.fa R.1.drill.facts.length X.d.fc, .slice X.d.ma R.1.drill.motions.length X.d.mc, .slice X.d.sa R.1.drill.sent.length X.d.sc], .int .i64 R.2]) ∧ HAt B w' v R.1 ∧ Kp w.heap.size none w w'
theorem asOf_zero {R : House × Int} {er : Int} {w w' : World} (h : R = (zeroHouse, er)) (k : Kp w.heap.size none w w') :
    AsOfPost2 R w (.returned (.tuple #[.agg #[.int .i64 0, .int .i64 0, .slice none 0 0, .slice none 0 0, .slice none 0 0, .int .i64 0, .slice none 0 0, .slice none 0 0, .slice none 0 0], .int .i64 er])) w' := by
  subst h
  exact ⟨hvOf nilV, nilV, w.heap.size, rfl, Nat.le_refl _, rfl, ⟨0, RowsAt.zero _ _ _⟩, k⟩
theorem asOfC_ok (c : Council) (l : List CItem) (t : Int) : HouseOk c l.length (asOfC c l t).1 := by
  unfold asOfC
  split
  · exact zeroHouse_ok c _
  split
  · exact zeroHouse_ok c _
  split
  · exact zeroHouse_ok c _
  · have h := buildC_ok c (upTo l t)
    have hl := upTo_len l t
    exact ⟨h.t0, h.t1, fun d => (h.led d).mono hl⟩
theorem put_see {ab B : Nat} {wb w : World} {v : Ky → Value} {a : House} (Q : Kp wb.heap.size none wb w) (YB : Blk w ab 43 zeroCells) (HA : HAt B w v a) (hap : ab < B) (hB : wb.heap.size ≤ ab) (X : HV) :
    Kp wb.heap.size none wb (putH w ab X a) ∧ Blk (putH w ab X a) ab 43 #[.int .i64 a.tick, .int .i64 a.real.items, .slice X.r.fa a.real.facts.length X.r.fc, .slice X.r.ma a.real.motions.length X.r.mc, .slice X.r.sa a.real.sent.length X.r.sc, .int .i64 a.drill.items, .slice X.d.fa a.drill.facts.length X.d.fc, .slice X.d.ma a.drill.motions.length X.d.mc, .slice X.d.sa a.drill.sent.length X.d.sc] ∧ HAt B (putH w ab X a) v a :=
  ⟨Q.grownN (putH_grown _ _ _ _) Q.size hB, Blk.setR0 YB _ _ _ _ _ _ _ _ _, HA.set (putH_grown _ _ _ _) fun k e => by have := (HA.ge k _ e).1; omega⟩
theorem Rd.take0 {α : Type} {row : Option Nat} {w : World} {sz : Nat} {enc : α → List Value} {A : Option Addr} {xs : List α} (h : Rd row w sz enc A xs.length xs) (n : Nat) (hn : n ≤ xs.length) : Rd row w sz enc A (xs.take n).length (xs.take n) := by
  refine ⟨rfl, fun h0 => ?_⟩
  rw [List.length_take] at h0
  obtain ⟨b, o, e, hb, hr, hc⟩ := h.2 (by omega)
  refine ⟨b, o, e, hb, hr, fun i hi j v hv => hc i (by rw [List.length_take] at hi; omega) j v ?_⟩
  rw [← hv, List.getElem_take]
set_option maxRecDepth 20000 in
set_option maxHeartbeats 4000000 in
theorem council_AsOf_ha (V : CV) (c : Council) (A : Option Addr) (cap : Nat) (l : List CItem) (t : Int) (w : World) (hc : CAt w.heap.size w V c) (hr : Rd none w 9 encItem A l.length l) (hl : l.length ≤ 1000000) (hcap : l.length ≤ cap) :
    Calls Tryz.prog 7 #[.agg #[.slice V.am c.members.length V.cm, .slice V.al c.laws.length V.cl, .slice V.av c.levels.length V.cv], .slice A l.length cap, .int .i64 t] w (AsOfPost2 (asOfC c l t) w) := by
  obtain ⟨R, hR⟩ : ∃ R, R = asOfC c l t := ⟨_, rfl⟩
  rw [← hR]
  have CB := ((Blk.new w 28 #[.slice V.am c.members.length V.cm, .slice V.al c.laws.length V.cl, .slice V.av c.levels.length V.cv]).alloc (.cells #[.int .i64 t] 2)).alloc (.cells zeroCells 43)
  have TB := (Blk.newAt (w.alloc (.cells #[.slice V.am c.members.length V.cm, .slice V.al c.laws.length V.cl, .slice V.av c.levels.length V.cv] 28)) 2 #[.int .i64 t] (n := w.heap.size + 1) (by simp)).alloc (.cells zeroCells 43)
  have RB := Blk.newAt ((w.alloc (.cells #[.slice V.am c.members.length V.cm, .slice V.al c.laws.length V.cl, .slice V.av c.levels.length V.cv] 28)).alloc (.cells #[.int .i64 t] 2)) 43 zeroCells (n := w.heap.size + 1 + 1) (by simp)
  have KK := (Kp.new2 w (.cells #[.slice V.am c.members.length V.cm, .slice V.al c.laws.length V.cl, .slice V.av c.levels.length V.cv] 28) (.cells #[.int .i64 t] 2)).alloc (by simp; omega) (.cells zeroCells 43)
  replace hc := hc.next KK
  replace hr := hr.kpN KK
  have eg : ∀ args w, (callFunc 32 args).run Tryz.prog w = .ok (.enter 32 args) w := enters_of Tryz.func32 (by kernel_rfl) rfl
  go_enter Tryz.func7, Tryz.ntmps7
  go_upto_region 1 with (fail)
  change Code.wp _ _ _ _ (((w.alloc (.cells #[.slice V.am c.members.length V.cm, .slice V.al c.laws.length V.cl, .slice V.av c.levels.length V.cv] 28)).alloc (.cells #[.int .i64 t] 2)).alloc (.cells zeroCells 43))
  obtain ⟨cb, hb1⟩ : ∃ q, q = w.heap.size := ⟨_, rfl⟩
  obtain ⟨tb, hb2⟩ : ∃ q, q = w.heap.size + 1 := ⟨_, rfl⟩
  obtain ⟨rb, hb3⟩ : ∃ q, q = w.heap.size + 1 + 1 := ⟨_, rfl⟩
  rw [← hb3, ← hb2, ← hb1]
  rw [← hb1] at CB
  rw [← hb2] at TB
  rw [← hb3] at RB
  have hrw : w.heap.size ≤ rb := by omega
  generalize ((w.alloc (.cells #[.slice V.am c.members.length V.cm, .slice V.al c.laws.length V.cl, .slice V.av c.levels.length V.cv] 28)).alloc (.cells #[.int .i64 t] 2)).alloc (.cells zeroCells 43) = w1 at CB TB RB KK hc hr ⊢
  clear hb1 hb2 hb3
  have cc := fun i => CB.cell i
  go_wp2_with fail
  refine (council_Check_any _ V c _ hc).mono ?_
  rintro e w2 ⟨rfl, k2⟩
  replace hc := hc.next k2
  replace hr := hr.kpN k2
  replace CB := CB.kpN k2
  replace TB := TB.kpN k2
  replace RB := RB.kpN k2
  replace KK := KK.thenN k2 (Nat.le_refl _)
  clear k2 cc
  have cc := fun i => CB.cell i
  have ct := fun i => TB.cell i
  have cr := fun i => RB.cell i
  have fr := fun i => RB.frozen i
  simp only [zeroCells] at cr
  by_cases h1 : checkC c = 0
  case neg =>
    rw [show asOfC c l t = (zeroHouse, checkC c) by unfold asOfC; rw [if_pos h1]] at hR
    replace hR := Lib.hid hR
    generalize checkC c = ce at h1 hR ⊢
    have h1' : (ce == 0) = false := by simpa using h1
    go_wp2_with fail
    have K9 := setR0_kp KK hrw (.int .i64 0) (.int .i64 0) (.slice none 0 0) (.slice none 0 0) (.slice none 0 0) (.int .i64 0) (.slice none 0 0) (.slice none 0 0) (.slice none 0 0)
    have R9 := Blk.setR0 RB (.int .i64 0) (.int .i64 0) (.slice none 0 0) (.slice none 0 0) (.slice none 0 0) (.int .i64 0) (.slice none 0 0) (.slice none 0 0) (.slice none 0 0)
    change bodyPost _ _ _ _ _ (setR0 w2 rb (.int .i64 0) (.int .i64 0) (.slice none 0 0) (.slice none 0 0) (.slice none 0 0) (.int .i64 0) (.slice none 0 0) (.slice none 0 0) (.slice none 0 0))
    generalize setR0 w2 rb (.int .i64 0) (.int .i64 0) (.slice none 0 0) (.slice none 0 0) (.slice none 0 0) (.int .i64 0) (.slice none 0 0) (.slice none 0 0) (.slice none 0 0) = w9 at K9 R9 ⊢
    have c9 := fun i => R9.cell i
    exact bodyPost_ret (v := .tuple #[.agg #[.int .i64 0, .int .i64 0, .slice none 0 0, .slice none 0 0, .slice none 0 0, .int .i64 0, .slice none 0 0, .slice none 0 0, .slice none 0 0], .int .i64 (ce)]) (by simp [results, Tryz.results7, go_sem, c9]) rfl (asOf_zero hR.out K9)
  case pos =>
    have hR2 : R = if 2000 < l.length then (zeroHouse, 8) else if t < 0 ∨ 1073741824 < t then (zeroHouse, 2) else ((buildC c (upTo l t)).1, 0) := by rw [hR]; unfold asOfC; rw [if_neg (by simpa using h1)]
    clear hR
    rw [h1]
    by_cases h2 : 2000 < l.length
    · rw [if_pos h2] at hR2
      have hR := Lib.hid hR2
      have h2' : 2000 < (l.length : Int) := by omega
      clear hR2
      go_wp2_with fail
      have K9 := setR0_kp KK hrw (.int .i64 0) (.int .i64 0) (.slice none 0 0) (.slice none 0 0) (.slice none 0 0) (.int .i64 0) (.slice none 0 0) (.slice none 0 0) (.slice none 0 0)
      have R9 := Blk.setR0 RB (.int .i64 0) (.int .i64 0) (.slice none 0 0) (.slice none 0 0) (.slice none 0 0) (.int .i64 0) (.slice none 0 0) (.slice none 0 0) (.slice none 0 0)
      change bodyPost _ _ _ _ _ (setR0 w2 rb (.int .i64 0) (.int .i64 0) (.slice none 0 0) (.slice none 0 0) (.slice none 0 0) (.int .i64 0) (.slice none 0 0) (.slice none 0 0) (.slice none 0 0))
      generalize setR0 w2 rb (.int .i64 0) (.int .i64 0) (.slice none 0 0) (.slice none 0 0) (.slice none 0 0) (.int .i64 0) (.slice none 0 0) (.slice none 0 0) (.slice none 0 0) = w9 at K9 R9 ⊢
      have c9 := fun i => R9.cell i
      exact bodyPost_ret (v := .tuple #[.agg #[.int .i64 0, .int .i64 0, .slice none 0 0, .slice none 0 0, .slice none 0 0, .int .i64 0, .slice none 0 0, .slice none 0 0, .slice none 0 0], .int .i64 (8)]) (by simp [results, Tryz.results7, go_sem, c9]) rfl (asOf_zero hR.out K9)
    rw [if_neg h2] at hR2
    have h2' : ¬ 2000 < (l.length : Int) := by omega
    clear h2
    replace hR2 := Lib.hid hR2
    go_wp2_with fail
    refine (council_within_any t 0 1073741824 _).mono ?_
    rintro e w3 ⟨rfl, k3⟩
    replace hc := hc.next k3
    replace hr := hr.kpN k3
    replace CB := CB.kpN k3
    replace TB := TB.kpN k3
    replace RB := RB.kpN k3
    replace KK := KK.thenN k3 (Nat.le_refl _)
    clear k3 cc ct cr fr h2'
    replace hR2 := hR2.out
    by_cases h3 : t < 0 ∨ 1073741824 < t
    · rw [if_pos h3] at hR2
      have hR := Lib.hid hR2
      clear hR2
      have hb : bt t 0 1073741824 = false := by unfold bt; rcases h3 with h | h <;> simp <;> omega
      rw [hb]
      have cr := fun i => RB.cell i
      have fr := fun i => RB.frozen i
      simp only [zeroCells] at cr
      clear h3 hb
      go_wp2_with fail
      have K9 := setR0_kp KK hrw (.int .i64 0) (.int .i64 0) (.slice none 0 0) (.slice none 0 0) (.slice none 0 0) (.int .i64 0) (.slice none 0 0) (.slice none 0 0) (.slice none 0 0)
      have R9 := Blk.setR0 RB (.int .i64 0) (.int .i64 0) (.slice none 0 0) (.slice none 0 0) (.slice none 0 0) (.int .i64 0) (.slice none 0 0) (.slice none 0 0) (.slice none 0 0)
      change bodyPost _ _ _ _ _ (setR0 w3 rb (.int .i64 0) (.int .i64 0) (.slice none 0 0) (.slice none 0 0) (.slice none 0 0) (.int .i64 0) (.slice none 0 0) (.slice none 0 0) (.slice none 0 0))
      generalize setR0 w3 rb (.int .i64 0) (.int .i64 0) (.slice none 0 0) (.slice none 0 0) (.slice none 0 0) (.int .i64 0) (.slice none 0 0) (.slice none 0 0) (.slice none 0 0) = w9 at K9 R9 ⊢
      have c9 := fun i => R9.cell i
      exact bodyPost_ret (v := .tuple #[.agg #[.int .i64 0, .int .i64 0, .slice none 0 0, .slice none 0 0, .slice none 0 0, .int .i64 0, .slice none 0 0, .slice none 0 0, .slice none 0 0], .int .i64 (2)]) (by simp [results, Tryz.results7, go_sem, c9]) rfl (asOf_zero hR.out K9)
    rw [if_neg h3] at hR2
    have hb : bt t 0 1073741824 = true := by unfold bt; simp; omega
    rw [hb]
    clear hb h3
    obtain ⟨⟨x, ix, er⟩, hQ⟩ : ∃ q, q = buildC c (upTo l t) := ⟨_, rfl⟩
    have hxo := buildC_ok c (upTo l t)
    rw [← hQ] at hR2 hxo
    simp only at hR2 hxo
    have hul := upTo_len l t
    have hR := Lib.hid hR2
    replace hxo := Lib.hid hxo
    clear hR2
    have ct := fun i => TB.cell i
    replace hR := Lib.hid hR.out
    replace hQ := Lib.hid hQ
    replace RB := Lib.hid RB
    replace KK := Lib.hid KK
    go_wp2_with fail
    refine (indexItem_any 32 _ (fun x => decide (t < x.tick)) eg A cap l w3 (asOf1_pred _ _ _ (TB.cell 0)) hr hl).mono ?_
    rintro e w4 ⟨rfl, k4⟩
    replace hc := hc.next k4
    replace hr := hr.kpN k4
    replace CB := CB.kpN k4
    replace RB := RB.out.kpN k4
    replace KK := KK.out.thenN k4 (Nat.le_refl _)
    replace hQ := hQ.out
    clear k4 TB ct eg h1
    have cc := fun i => CB.cell i
    rcases idx_upTo t l 0 with ⟨h5, h6⟩ | ⟨i, hi, h5, h6⟩
    · rw [h5]
      rw [h6] at hQ
      have hcall := build_see V c A cap l _ hc hr hl
      rw [← hQ] at hcall
      clear h5 h6 hQ hc hr
      go_wp2_with fail
      refine hcall.mono ?_
      rintro e w5 ⟨v, X, hX, rfl, HA, -, k5⟩
      simp only at HA ⊢
      replace hX := Lib.hid hX
      have hrb4 := RB.lt
      have hKs := KK.size
      replace RB := RB.kpN k5
      replace KK := KK.thenN k5 (Nat.le_refl _)
      clear k5 cc hcall
      have kh := Kp.new w5 (.cells #[.int .i64 x.tick, .int .i64 x.real.items, .slice X.r.fa x.real.facts.length X.r.fc, .slice X.r.ma x.real.motions.length X.r.mc, .slice X.r.sa x.real.sent.length X.r.sc, .int .i64 x.drill.items, .slice X.d.fa x.drill.facts.length X.d.fc, .slice X.d.ma x.drill.motions.length X.d.mc, .slice X.d.sa x.drill.sent.length X.d.sc] 43)
      have HB := Blk.new w5 43 #[.int .i64 x.tick, .int .i64 x.real.items, .slice X.r.fa x.real.facts.length X.r.fc, .slice X.r.ma x.real.motions.length X.r.mc, .slice X.r.sa x.real.sent.length X.r.sc, .int .i64 x.drill.items, .slice X.d.fa x.drill.facts.length X.d.fc, .slice X.d.ma x.drill.motions.length X.d.mc, .slice X.d.sa x.drill.sent.length X.d.sc]
      replace RB := RB.kpN kh
      replace KK := KK.thenN kh (Nat.le_refl _)
      replace HA := HA.kpN kh
      clear kh
      go_upto_region 12 with (fail)
      change Code.wp _ _ _ _ (w5.alloc (.cells #[.int .i64 x.tick, .int .i64 x.real.items, .slice X.r.fa x.real.facts.length X.r.fc, .slice X.r.ma x.real.motions.length X.r.mc, .slice X.r.sa x.real.sent.length X.r.sc, .int .i64 x.drill.items, .slice X.d.fa x.drill.facts.length X.d.fc, .slice X.d.ma x.drill.motions.length X.d.mc, .slice X.d.sa x.drill.sent.length X.d.sc] 43))
      obtain ⟨hb, hhb⟩ : ∃ q, q = w5.heap.size := ⟨_, rfl⟩
      rw [← hhb] at HB
      rw [← hhb]
      generalize w5.alloc (.cells #[.int .i64 x.tick, .int .i64 x.real.items, .slice X.r.fa x.real.facts.length X.r.fc, .slice X.r.ma x.real.motions.length X.r.mc, .slice X.r.sa x.real.sent.length X.r.sc, .int .i64 x.drill.items, .slice X.d.fa x.drill.facts.length X.d.fc, .slice X.d.ma x.drill.motions.length X.d.mc, .slice X.d.sa x.drill.sent.length X.d.sc] 43) = w6 at HB RB KK HA ⊢
      clear hhb
      have ch := fun i => HB.cell i
      have cr := fun i => RB.cell i
      have fr := fun i => RB.frozen i
      simp only [zeroCells] at cr
      obtain ⟨k9, b9, s9⟩ := put_see KK RB HA hrb4 hrw X
      replace k9 := Lib.hid k9
      replace b9 := Lib.hid b9
      replace s9 := Lib.hid s9
      clear HA RB HB KK
      go_wp2_with fail
      change bodyPost _ _ _ _ _ (putH w6 rb X x)
      replace k9 := k9.out
      replace b9 := b9.out
      replace s9 := s9.out
      generalize putH w6 rb X x = w9 at k9 b9 s9 ⊢
      have c9 := fun i => b9.cell i
      have hR3 := hR.out
      subst hR3
      exact bodyPost_ret (v := .tuple #[.agg #[.int .i64 x.tick, .int .i64 x.real.items, .slice X.r.fa x.real.facts.length X.r.fc, .slice X.r.ma x.real.motions.length X.r.mc, .slice X.r.sa x.real.sent.length X.r.sc, .int .i64 x.drill.items, .slice X.d.fa x.drill.facts.length X.d.fc, .slice X.d.ma x.drill.motions.length X.d.mc, .slice X.d.sa x.drill.sent.length X.d.sc], .int .i64 0]) (by simp [results, Tryz.results7, go_sem, c9]) rfl ⟨X, v, _, hX.out, by omega, rfl, s9, k9⟩
    · rw [h5]
      simp only [Int.zero_add]
      rw [h6] at hQ
      have hcall := build_see V c A cap (l.take i) _ hc (hr.take0 i (by omega)) (by rw [List.length_take]; omega)
      rw [← hQ, List.length_take, Nat.min_eq_left (by omega)] at hcall
      have hi1 : (i : Int) ≤ (cap : Int) := by omega
      have hi2 : i ≤ cap := by omega
      have hi0 : 0 ≤ (i : Int) := by omega
      clear h5 h6 hQ hc hr
      go_wp2_with fail
      refine hcall.mono ?_
      rintro e w5 ⟨v, X, hX, rfl, HA, -, k5⟩
      simp only at HA ⊢
      replace hX := Lib.hid hX
      have hrb4 := RB.lt
      have hKs := KK.size
      replace RB := RB.kpN k5
      replace KK := KK.thenN k5 (Nat.le_refl _)
      clear k5 cc hcall
      have kh := Kp.new w5 (.cells #[.int .i64 x.tick, .int .i64 x.real.items, .slice X.r.fa x.real.facts.length X.r.fc, .slice X.r.ma x.real.motions.length X.r.mc, .slice X.r.sa x.real.sent.length X.r.sc, .int .i64 x.drill.items, .slice X.d.fa x.drill.facts.length X.d.fc, .slice X.d.ma x.drill.motions.length X.d.mc, .slice X.d.sa x.drill.sent.length X.d.sc] 43)
      have HB := Blk.new w5 43 #[.int .i64 x.tick, .int .i64 x.real.items, .slice X.r.fa x.real.facts.length X.r.fc, .slice X.r.ma x.real.motions.length X.r.mc, .slice X.r.sa x.real.sent.length X.r.sc, .int .i64 x.drill.items, .slice X.d.fa x.drill.facts.length X.d.fc, .slice X.d.ma x.drill.motions.length X.d.mc, .slice X.d.sa x.drill.sent.length X.d.sc]
      replace RB := RB.kpN kh
      replace KK := KK.thenN kh (Nat.le_refl _)
      replace HA := HA.kpN kh
      clear kh
      go_upto_region 12 with (fail)
      change Code.wp _ _ _ _ (w5.alloc (.cells #[.int .i64 x.tick, .int .i64 x.real.items, .slice X.r.fa x.real.facts.length X.r.fc, .slice X.r.ma x.real.motions.length X.r.mc, .slice X.r.sa x.real.sent.length X.r.sc, .int .i64 x.drill.items, .slice X.d.fa x.drill.facts.length X.d.fc, .slice X.d.ma x.drill.motions.length X.d.mc, .slice X.d.sa x.drill.sent.length X.d.sc] 43))
      obtain ⟨hb, hhb⟩ : ∃ q, q = w5.heap.size := ⟨_, rfl⟩
      rw [← hhb] at HB
      rw [← hhb]
      generalize w5.alloc (.cells #[.int .i64 x.tick, .int .i64 x.real.items, .slice X.r.fa x.real.facts.length X.r.fc, .slice X.r.ma x.real.motions.length X.r.mc, .slice X.r.sa x.real.sent.length X.r.sc, .int .i64 x.drill.items, .slice X.d.fa x.drill.facts.length X.d.fc, .slice X.d.ma x.drill.motions.length X.d.mc, .slice X.d.sa x.drill.sent.length X.d.sc] 43) = w6 at HB RB KK HA ⊢
      clear hhb
      have ch := fun i => HB.cell i
      have cr := fun i => RB.cell i
      have fr := fun i => RB.frozen i
      simp only [zeroCells] at cr
      obtain ⟨k9, b9, s9⟩ := put_see KK RB HA hrb4 hrw X
      replace k9 := Lib.hid k9
      replace b9 := Lib.hid b9
      replace s9 := Lib.hid s9
      clear HA RB HB KK
      go_wp2_with fail
      change bodyPost _ _ _ _ _ (putH w6 rb X x)
      replace k9 := k9.out
      replace b9 := b9.out
      replace s9 := s9.out
      generalize putH w6 rb X x = w9 at k9 b9 s9 ⊢
      have c9 := fun i => b9.cell i
      have hR3 := hR.out
      subst hR3
      exact bodyPost_ret (v := .tuple #[.agg #[.int .i64 x.tick, .int .i64 x.real.items, .slice X.r.fa x.real.facts.length X.r.fc, .slice X.r.ma x.real.motions.length X.r.mc, .slice X.r.sa x.real.sent.length X.r.sc, .int .i64 x.drill.items, .slice X.d.fa x.drill.facts.length X.d.fc, .slice X.d.ma x.drill.motions.length X.d.mc, .slice X.d.sa x.drill.sent.length X.d.sc], .int .i64 0]) (by simp [results, Tryz.results7, go_sem, c9]) rfl ⟨X, v, _, hX.out, by omega, rfl, s9, k9⟩
end Go.Proofs.YtogpgnljomchcaaGreat
namespace Go.Proofs.YtogpgnljomchcaaGreat
open Go.RowKit

theorem put_see2 {nb B : Nat} {wb w : World} {v : Ky → Value} {a : House} (Q : Kp wb.heap.size none wb w) (YB : Blk w nb 43 zeroCells) (HA : HAt B w v a) (hap : ∀ k, (v k).ownBlock ≠ some nb) (hB : wb.heap.size ≤ nb) (X : HV) :
    ∃ wq, wq = putH w nb X a ∧ Kp wb.heap.size none wb wq ∧ Blk wq nb 43 #[.int .i64 a.tick, .int .i64 a.real.items, .slice X.r.fa a.real.facts.length X.r.fc, .slice X.r.ma a.real.motions.length X.r.mc, .slice X.r.sa a.real.sent.length X.r.sc, .int .i64 a.drill.items, .slice X.d.fa a.drill.facts.length X.d.fc, .slice X.d.ma a.drill.motions.length X.d.mc, .slice X.d.sa a.drill.sent.length X.d.sc] ∧ HAt B wq v a :=
  ⟨_, rfl, Q.grownN (putH_grown _ _ _ _) Q.size hB, Blk.setR0 YB _ _ _ _ _ _ _ _ _, HA.set (putH_grown _ _ _ _) hap⟩
set_option maxRecDepth 20000 in
set_option maxHeartbeats 4000000 in
theorem ref_AsOf_any (V : CV) (c : Council) (A : Option Addr) (cap : Nat) (l : List CItem) (t : Int) (w : World) (hc : CAt w.heap.size w V c) (hr : Rd none w 9 encItem A l.length l) (hl : l.length ≤ 1000000) (hcap : l.length ≤ cap) :
    Calls Tryz.prog 19 #[.agg #[.slice V.am c.members.length V.cm, .slice V.al c.laws.length V.cl, .slice V.av c.levels.length V.cv], .slice A l.length cap, .int .i64 t] w (AsOfPost2 (asOfC c l t) w) := by
  obtain ⟨R, hR⟩ : ∃ R, R = asOfC c l t := ⟨_, rfl⟩
  rw [← hR]
  have CB := (Blk.new w 28 #[.slice V.am c.members.length V.cm, .slice V.al c.laws.length V.cl, .slice V.av c.levels.length V.cv]).alloc (.cells zeroCells 43)
  have RB := Blk.newAt (w.alloc (.cells #[.slice V.am c.members.length V.cm, .slice V.al c.laws.length V.cl, .slice V.av c.levels.length V.cv] 28)) 43 zeroCells (n := w.heap.size + 1) (by simp)
  have KK := Kp.new2 w (.cells #[.slice V.am c.members.length V.cm, .slice V.al c.laws.length V.cl, .slice V.av c.levels.length V.cv] 28) (.cells zeroCells 43)
  replace hc := hc.next KK
  replace hr := hr.kpN KK
  go_enter Tryz.func19, Tryz.ntmps19
  go_upto_region 1 with (fail)
  change Code.wp _ _ _ _ ((w.alloc (.cells #[.slice V.am c.members.length V.cm, .slice V.al c.laws.length V.cl, .slice V.av c.levels.length V.cv] 28)).alloc (.cells zeroCells 43))
  obtain ⟨cb, hb1⟩ : ∃ q, q = w.heap.size := ⟨_, rfl⟩
  obtain ⟨rb, hb3⟩ : ∃ q, q = w.heap.size + 1 := ⟨_, rfl⟩
  rw [← hb3, ← hb1]
  rw [← hb1] at CB
  rw [← hb3] at RB
  have hrw : w.heap.size ≤ rb := by omega
  generalize (w.alloc (.cells #[.slice V.am c.members.length V.cm, .slice V.al c.laws.length V.cl, .slice V.av c.levels.length V.cv] 28)).alloc (.cells zeroCells 43) = w1 at CB RB KK hc hr ⊢
  clear hb1 hb3
  have cc := fun i => CB.cell i
  go_wp2_with fail
  refine (ref_Check_any _ V c _ hc).mono ?_
  rintro e w2 ⟨rfl, k2⟩
  replace hc := hc.next k2
  replace hr := hr.kpN k2
  replace CB := CB.kpN k2
  replace RB := RB.kpN k2
  replace KK := KK.thenN k2 (Nat.le_refl _)
  clear k2 cc
  have cc := fun i => CB.cell i
  have cr := fun i => RB.cell i
  have fr := fun i => RB.frozen i
  simp only [zeroCells] at cr
  by_cases h1 : checkC c = 0
  case neg =>
    rw [show asOfC c l t = (zeroHouse, checkC c) by unfold asOfC; rw [if_pos h1]] at hR
    replace hR := Lib.hid hR
    generalize checkC c = ce at h1 hR ⊢
    have h1' : (ce == 0) = false := by simpa using h1
    go_wp2_with fail
    have K9 := setR0_kp KK hrw (.int .i64 0) (.int .i64 0) (.slice none 0 0) (.slice none 0 0) (.slice none 0 0) (.int .i64 0) (.slice none 0 0) (.slice none 0 0) (.slice none 0 0)
    have R9 := Blk.setR0 RB (.int .i64 0) (.int .i64 0) (.slice none 0 0) (.slice none 0 0) (.slice none 0 0) (.int .i64 0) (.slice none 0 0) (.slice none 0 0) (.slice none 0 0)
    change bodyPost _ _ _ _ _ (setR0 w2 rb (.int .i64 0) (.int .i64 0) (.slice none 0 0) (.slice none 0 0) (.slice none 0 0) (.int .i64 0) (.slice none 0 0) (.slice none 0 0) (.slice none 0 0))
    generalize setR0 w2 rb (.int .i64 0) (.int .i64 0) (.slice none 0 0) (.slice none 0 0) (.slice none 0 0) (.int .i64 0) (.slice none 0 0) (.slice none 0 0) (.slice none 0 0) = w9 at K9 R9 ⊢
    have c9 := fun i => R9.cell i
    exact bodyPost_ret (v := .tuple #[.agg #[.int .i64 0, .int .i64 0, .slice none 0 0, .slice none 0 0, .slice none 0 0, .int .i64 0, .slice none 0 0, .slice none 0 0, .slice none 0 0], .int .i64 (ce)]) (by simp [results, Tryz.results19, go_sem, c9]) rfl (asOf_zero hR.out K9)
  case pos =>
    have hR2 : R = if 2000 < l.length then (zeroHouse, 8) else if t < 0 ∨ 1073741824 < t then (zeroHouse, 2) else ((buildC c (upTo l t)).1, 0) := by rw [hR]; unfold asOfC; rw [if_neg (by simpa using h1)]
    clear hR
    rw [h1]
    by_cases h2 : 2000 < l.length
    · rw [if_pos h2] at hR2
      have hR := Lib.hid hR2
      have h2' : 2000 < (l.length : Int) := by omega
      clear hR2
      go_wp2_with fail
      have K9 := setR0_kp KK hrw (.int .i64 0) (.int .i64 0) (.slice none 0 0) (.slice none 0 0) (.slice none 0 0) (.int .i64 0) (.slice none 0 0) (.slice none 0 0) (.slice none 0 0)
      have R9 := Blk.setR0 RB (.int .i64 0) (.int .i64 0) (.slice none 0 0) (.slice none 0 0) (.slice none 0 0) (.int .i64 0) (.slice none 0 0) (.slice none 0 0) (.slice none 0 0)
      change bodyPost _ _ _ _ _ (setR0 w2 rb (.int .i64 0) (.int .i64 0) (.slice none 0 0) (.slice none 0 0) (.slice none 0 0) (.int .i64 0) (.slice none 0 0) (.slice none 0 0) (.slice none 0 0))
      generalize setR0 w2 rb (.int .i64 0) (.int .i64 0) (.slice none 0 0) (.slice none 0 0) (.slice none 0 0) (.int .i64 0) (.slice none 0 0) (.slice none 0 0) (.slice none 0 0) = w9 at K9 R9 ⊢
      have c9 := fun i => R9.cell i
      exact bodyPost_ret (v := .tuple #[.agg #[.int .i64 0, .int .i64 0, .slice none 0 0, .slice none 0 0, .slice none 0 0, .int .i64 0, .slice none 0 0, .slice none 0 0, .slice none 0 0], .int .i64 (8)]) (by simp [results, Tryz.results19, go_sem, c9]) rfl (asOf_zero hR.out K9)
    rw [if_neg h2] at hR2
    have h2' : ¬ 2000 < (l.length : Int) := by omega
    clear h2
    replace hR2 := Lib.hid hR2
    go_wp2_with fail
    refine (bolideref09_between_any t 0 1073741824 _).mono ?_
    rintro e w3 ⟨rfl, k3⟩
    replace hc := hc.next k3
    replace hr := hr.kpN k3
    replace CB := CB.kpN k3
    replace RB := RB.kpN k3
    replace KK := KK.thenN k3 (Nat.le_refl _)
    clear k3 cc cr fr h2'
    replace hR2 := hR2.out
    by_cases h3 : t < 0 ∨ 1073741824 < t
    · rw [if_pos h3] at hR2
      have hR := Lib.hid hR2
      clear hR2
      have hb : bt t 0 1073741824 = false := by unfold bt; rcases h3 with h | h <;> simp <;> omega
      rw [hb]
      have cr := fun i => RB.cell i
      have fr := fun i => RB.frozen i
      simp only [zeroCells] at cr
      clear h3 hb
      go_wp2_with fail
      have K9 := setR0_kp KK hrw (.int .i64 0) (.int .i64 0) (.slice none 0 0) (.slice none 0 0) (.slice none 0 0) (.int .i64 0) (.slice none 0 0) (.slice none 0 0) (.slice none 0 0)
      have R9 := Blk.setR0 RB (.int .i64 0) (.int .i64 0) (.slice none 0 0) (.slice none 0 0) (.slice none 0 0) (.int .i64 0) (.slice none 0 0) (.slice none 0 0) (.slice none 0 0)
      change bodyPost _ _ _ _ _ (setR0 w3 rb (.int .i64 0) (.int .i64 0) (.slice none 0 0) (.slice none 0 0) (.slice none 0 0) (.int .i64 0) (.slice none 0 0) (.slice none 0 0) (.slice none 0 0))
      generalize setR0 w3 rb (.int .i64 0) (.int .i64 0) (.slice none 0 0) (.slice none 0 0) (.slice none 0 0) (.int .i64 0) (.slice none 0 0) (.slice none 0 0) (.slice none 0 0) = w9 at K9 R9 ⊢
      have c9 := fun i => R9.cell i
      exact bodyPost_ret (v := .tuple #[.agg #[.int .i64 0, .int .i64 0, .slice none 0 0, .slice none 0 0, .slice none 0 0, .int .i64 0, .slice none 0 0, .slice none 0 0, .slice none 0 0], .int .i64 (2)]) (by simp [results, Tryz.results19, go_sem, c9]) rfl (asOf_zero hR.out K9)
    rw [if_neg h3] at hR2
    have hb : bt t 0 1073741824 = true := by unfold bt; simp; omega
    rw [hb]
    clear hb h3
    obtain ⟨⟨x, ix, er⟩, hQ⟩ : ∃ q, q = buildC c (upTo l t) := ⟨_, rfl⟩
    have hxo := buildC_ok c (upTo l t)
    rw [← hQ] at hR2 hxo
    simp only at hR2 hxo
    have hul := upTo_len l t
    have hR := Lib.hid hR2
    replace hxo := Lib.hid hxo
    clear hR2 h1
    obtain ⟨n, hnu⟩ : ∃ q, q = (upTo l t).length := ⟨_, rfl⟩
    have hnl : n ≤ l.length := by omega
    have hin : ∀ i (hi : i < l.length), i < n → l[i].tick ≤ t := fun i hi h => upTo_in l t i (by omega) hi
    have hst : ∀ (hi : n < l.length), ¬ l[n].tick ≤ t := fun hi => by
      have := upTo_stop t l (by omega)
      simpa only [hnu] using this
    have hut : upTo l t = l.take n := by rw [hnu]; exact upTo_take l t
    have hul2 : (upTo l t).length ≤ 1000000 := by omega
    clear hnu hul
    rw [hut] at hQ
    have hcall := fun W (hc : CAt W.heap.size W V c) (hr : Rd none W 9 encItem A l.length l) => ref_build_see V c A cap (l.take n) W hc (hr.take0 n hnl) (by rw [List.length_take]; omega)
    rw [← hQ, List.length_take, Nat.min_eq_left hnl] at hcall
    replace hcall := Lib.hid hcall
    replace hin := Lib.hid hin
    replace hst := Lib.hid hst
    replace hR := Lib.hid hR.out
    clear hut hQ
    have hc1 : (n : Int) ≤ (cap : Int) := by omega
    have hc2 : n ≤ cap := by omega
    replace RB := Lib.hid RB
    replace KK := Lib.hid KK
    replace CB := Lib.hid CB
    go_upto_block 0 with (fail)
    go_cut [9] (fun n8 wx => n8 = .int .i64 (n : Int) ∧ wx = w3)
    case first =>
      go_wp2_with fail
      go_loopw [9] (fun n8 wr => ∃ j : Nat, n8 = .int .i64 (j : Int) ∧ j ≤ n ∧ wr = w3) (fun n8 _ => ((l.length : Int) - intOf n8).toNat)
      case atStart => exact ⟨0, rfl, Nat.zero_le _, rfl⟩
      case round =>
        obtain ⟨j, rfl, hj, hwr⟩ := hrel
        subst hwr
        by_cases hj2 : j < l.length
        · have hjj : (j : Int) < (l.length : Int) := by omega
          obtain ⟨b, o, eA, -, -, hc9⟩ := hr.at_ (by omega)
          have c1 : wr.cell? ⟨b, o + j * 9 + 1, none⟩ = some (.int .i64 l[j].tick) := by rw [Nat.add_assoc]; exact hc9 j hj2 1 _ rfl
          have hin2 := hin.out j hj2
          have hst2 : j = n → ¬ l[j].tick ≤ t := fun e => by subst e; have := hst.out hj2; omega
          generalize l[j].tick = tk at c1 hin2 hst2
          subst eA
          clear hc9
          replace hr := Lib.hid hr
          by_cases hjn : j = n
          · have htk := hst2 hjn
            subst hjn
            clear hin2 hst2
            go_wp2_with fail
            go_meet
            case rel => first | exact ⟨rfl, rfl⟩ | exact ⟨rfl, trivial⟩
          · have htk := hin2 (by omega)
            clear hin2 hst2
            go_wp2
            go_roundw
            case rel => exact ⟨j + 1, by congr 1, by omega, by trivial⟩
            case measure => simp [intOf]; omega
        · have hjj : ¬ (j : Int) < (l.length : Int) := by omega
          have hjn : j = n := by omega
          subst hjn
          replace hr := Lib.hid hr
          go_wp2_with fail
          go_meet
          case rel => first | exact ⟨rfl, rfl⟩ | exact ⟨rfl, trivial⟩
    case rest =>
    rename World => w4
    obtain ⟨rfl, hw4⟩ := hcut
    subst hw4
    clear hin hst
    replace RB := RB.out
    replace KK := KK.out
    replace CB := CB.out
    have hrb4 := RB.lt
    go_upto_region 11 with (fail)
    go_cut [10] (fun p wx => ∃ nb X v, p = .pointer (some ⟨nb, 0, none⟩) ∧ X = hvOf v ∧ Kp w4.heap.size none w4 wx ∧ Blk wx nb 43 #[.int .i64 x.tick, .int .i64 x.real.items, .slice X.r.fa x.real.facts.length X.r.fc, .slice X.r.ma x.real.motions.length X.r.mc, .slice X.r.sa x.real.sent.length X.r.sc, .int .i64 x.drill.items, .slice X.d.fa x.drill.facts.length X.d.fc, .slice X.d.ma x.drill.motions.length X.d.mc, .slice X.d.sa x.drill.sent.length X.d.sc] ∧ ∃ B, rb < B ∧ w4.heap.size ≤ B ∧ HAt B wx v x)
    case first =>
      have Q5 := (Kp.refl w4.heap.size none w4).drew
      obtain ⟨S0, hS⟩ : ∃ S0 : World → Prop, S0 = fun w' => Blk w' cb 28 #[.slice V.am c.members.length V.cm, .slice V.al c.laws.length V.cl, .slice V.av c.levels.length V.cv] := ⟨_, rfl⟩
      have hS0 : ∀ w', S0 w' ↔ Blk w' cb 28 #[.slice V.am c.members.length V.cm, .slice V.al c.laws.length V.cl, .slice V.av c.levels.length V.cv] := fun w' => by rw [hS]
      clear hS
      have cc := fun (q : Ev S0) i => ((hS0 _).1 q.h).cell i
      replace hc := Lib.hid hc
      replace hr := Lib.hid hr
      have hevT := ev_true
      refine wp_region_tr S0 (.st 0 1 (.st 1 0 (.st 2 0 (.st 3 0 (.b2 4 (.st 5 0 (.st 6 0 (.st 7 0 (.st 8 0 (.st 9 2 (.st 10 2 (.st 11 0 (.st 12 0 .nil)))))))) 9 (.st 4 2 (.st 5 0 (.st 6 0 (.st 7 0 (.st 8 0 (.st 10 2 (.st 11 0 (.st 12 0 .nil))))))))))))) (by kernel_rfl) (by kernel_rfl) ((hS0 _).2 (CB.kpN Q5)) ?_
      intro _hev
      iterate 4 (first | (refine wpTr_v rfl rfl ?_; intro K hK; go_big_quiet_op; go_big_quiet_on) | (refine wpTr_q rfl rfl ?_; intro K hK; go_big_quiet_op; go_big_quiet_on) | refine wpTr_s rfl rfl ?_)
      refine wpTr_b2 ?_ ?_
      · refine wpOne_l rfl rfl ?_; intro K hK
        go_step
        refine (hcall.out _ (hc.out.next Q5) (hr.out.kpN Q5)).mono ?_
        have hq5 := Q5.size
        rintro e w7 ⟨v, X, hX, rfl, HA, -, k7⟩
        simp only at HA ⊢
        replace hX := Lib.hid hX
        replace Q5 := Q5.thenN k7 (Nat.le_refl _)
        try (have hap : ∀ k, (v k).ownBlock ≠ some nb := fun k e => by have := (HA.ge k _ e).1; have := NB.lt; omega)
        try (replace NB := NB.kpN k7)
        refine hK _ _ ((hS0 _).2 (CB.kpN Q5)) ?_
        clear hK K k7
        iterate 4 (first | (refine wpTr_v rfl rfl ?_; intro K hK; go_big_quiet_op; go_big_quiet_on) | (refine wpTr_q rfl rfl ?_; intro K hK; go_big_quiet_op; go_big_quiet_on) | refine wpTr_s rfl rfl ?_)
        refine wpTr_l rfl rfl ?_; intro K hK
        have NB := Blk.new w7 43 zeroCells
        have ky := Kp.new w7 (.cells zeroCells 43)
        go_step
        obtain ⟨nb, hnb⟩ : ∃ q, q = w7.heap.size := ⟨_, rfl⟩
        have hnb4 : w4.heap.size ≤ nb := by rw [hnb]; exact Q5.size
        replace Q5 := Q5.thenN ky (Nat.le_refl _)
        have hap : ∀ k, (v k).ownBlock ≠ some nb := fun k e => by have := (HA.ge k _ e).2; omega
        replace HA := HA.kpN ky
        rw [← hnb] at NB ⊢
        clear hnb ky
        change K _ (World.alloc w7 (.cells zeroCells 43))
        generalize World.alloc w7 (.cells zeroCells 43) = w8 at NB Q5 HA ⊢
        refine hK _ _ ((hS0 _).2 (CB.kpN Q5)) ?_
        clear hK K
        refine wpTr_l rfl rfl ?_; intro K hK
        obtain ⟨wq, hwq, Q9, NB8, HA9⟩ := put_see2 Q5 NB HA hap hnb4 X
        replace hwq := Lib.hid hwq
        have NB9 : Blk _ nb 43 #[.int .i64 0, .int .i64 0, .slice none 0 0, .slice none 0 0, .slice none 0 0, .int .i64 0, .slice none 0 0, .slice none 0 0, .slice none 0 0] := NB
        have cB := fun i => NB9.cell i
        have fB := fun i => NB.frozen i
        go_step
        change K _ (putH _ nb X x)
        rw [← hwq.out]
        refine hK _ _ ((hS0 _).2 (CB.kpN Q9)) ?_
        clear hK K cB fB hwq NB9 NB HA hap Q5
        iterate 2 (first | (refine wpTr_v rfl rfl ?_; intro K hK; go_big_quiet_op; go_big_quiet_on) | (refine wpTr_q rfl rfl ?_; intro K hK; go_big_quiet_op; go_big_quiet_on) | refine wpTr_s rfl rfl ?_)
        refine wpTr_nil ?_
        clear hevT _hev
        go_wp2_with fail
        go_meet
        case rel => exact ⟨nb, X, v, rfl, hX.out, Q9, NB8, _, Nat.lt_of_lt_of_le hrb4 hq5, hq5, HA9⟩
      · refine wpOne_l rfl rfl ?_; intro K hK
        generalize w4.drew = wz at Q5 ⊢
        have NB := Blk.new wz 43 zeroCells
        have ky := Kp.new wz (.cells zeroCells 43)
        go_step
        obtain ⟨nb, hnb⟩ : ∃ q, q = wz.heap.size := ⟨_, rfl⟩
        have hnb4 : w4.heap.size ≤ nb := by rw [hnb]; exact Q5.size
        replace Q5 := Q5.thenN ky (Nat.le_refl _)
        rw [← hnb] at NB ⊢
        clear hnb ky
        change K _ (World.alloc wz (.cells zeroCells 43))
        generalize World.alloc wz (.cells zeroCells 43) = w8 at NB Q5 ⊢
        refine hK _ _ ((hS0 _).2 (CB.kpN Q5)) ?_
        clear hK K
        refine wpTr_l rfl rfl ?_; intro K hK
        go_step
        refine (hcall.out _ (hc.out.next Q5) (hr.out.kpN Q5)).mono ?_
        have hq5 := Q5.size
        rintro e w7 ⟨v, X, hX, rfl, HA, -, k7⟩
        simp only at HA ⊢
        replace hX := Lib.hid hX
        replace Q5 := Q5.thenN k7 (Nat.le_refl _)
        try (have hap : ∀ k, (v k).ownBlock ≠ some nb := fun k e => by have := (HA.ge k _ e).1; have := NB.lt; omega)
        try (replace NB := NB.kpN k7)
        refine hK _ _ ((hS0 _).2 (CB.kpN Q5)) ?_
        clear hK K k7
        iterate 4 (first | (refine wpTr_v rfl rfl ?_; intro K hK; go_big_quiet_op; go_big_quiet_on) | (refine wpTr_q rfl rfl ?_; intro K hK; go_big_quiet_op; go_big_quiet_on) | refine wpTr_s rfl rfl ?_)
        refine wpTr_l rfl rfl ?_; intro K hK
        obtain ⟨wq, hwq, Q9, NB8, HA9⟩ := put_see2 Q5 NB HA hap hnb4 X
        replace hwq := Lib.hid hwq
        have NB9 : Blk _ nb 43 #[.int .i64 0, .int .i64 0, .slice none 0 0, .slice none 0 0, .slice none 0 0, .int .i64 0, .slice none 0 0, .slice none 0 0, .slice none 0 0] := NB
        have cB := fun i => NB9.cell i
        have fB := fun i => NB.frozen i
        go_step
        change K _ (putH _ nb X x)
        rw [← hwq.out]
        refine hK _ _ ((hS0 _).2 (CB.kpN Q9)) ?_
        clear hK K cB fB hwq NB9 NB HA hap Q5
        iterate 2 (first | (refine wpTr_v rfl rfl ?_; intro K hK; go_big_quiet_op; go_big_quiet_on) | (refine wpTr_q rfl rfl ?_; intro K hK; go_big_quiet_op; go_big_quiet_on) | refine wpTr_s rfl rfl ?_)
        refine wpTr_nil ?_
        clear hevT _hev
        go_wp2_with fail
        go_meet
        case rel => exact ⟨nb, X, v, rfl, hX.out, Q9, NB8, _, Nat.lt_of_lt_of_le hrb4 hq5, hq5, HA9⟩
    case rest =>
    rename World => w5
    obtain ⟨nb, X, v, rfl, hX, Q5, HB, B, hrb5, hB4, HA⟩ := hcut
    have hBw : w.heap.size ≤ B := Nat.le_trans KK.size hB4
    replace hX := Lib.hid hX
    replace RB := RB.kpN Q5
    replace KK := KK.thenN Q5 (Nat.le_refl _)
    clear Q5 CB hc hr hcall
    have ch := fun i => HB.cell i
    have cr := fun i => RB.cell i
    have fr := fun i => RB.frozen i
    simp only [zeroCells] at cr
    obtain ⟨k9, b9, s9⟩ := put_see KK RB HA hrb5 hrw X
    replace k9 := Lib.hid k9
    replace b9 := Lib.hid b9
    replace s9 := Lib.hid s9
    clear HA RB HB KK
    go_wp2_with fail
    change bodyPost _ _ _ _ _ (putH w5 rb X x)
    replace k9 := k9.out
    replace b9 := b9.out
    replace s9 := s9.out
    generalize putH w5 rb X x = w9 at k9 b9 s9 ⊢
    have c9 := fun i => b9.cell i
    have hR3 := hR.out
    subst hR3
    exact bodyPost_ret (v := .tuple #[.agg #[.int .i64 x.tick, .int .i64 x.real.items, .slice X.r.fa x.real.facts.length X.r.fc, .slice X.r.ma x.real.motions.length X.r.mc, .slice X.r.sa x.real.sent.length X.r.sc, .int .i64 x.drill.items, .slice X.d.fa x.drill.facts.length X.d.fc, .slice X.d.ma x.drill.motions.length X.d.mc, .slice X.d.sa x.drill.sent.length X.d.sc], .int .i64 0]) (by simp [results, Tryz.results19, go_sem, c9]) rfl ⟨X, v, _, hX.out, hBw, rfl, s9, k9⟩
end Go.Proofs.YtogpgnljomchcaaGreat
