/- council.AsOf: the house as of a tick. -/
import Derived.Test.YtogpgnljomchcaaGreatDelAll
namespace Go.Proofs.YtogpgnljomchcaaGreat
open Go.RowKit

def noLV : LV := ⟨none, 0, none, 0, none, 0, fun _ => (none, 0)⟩
theorem LAt.none (B : Nat) (w : World) : LAt B w noLV zeroLedger :=
  ⟨Lo.nil _ _ _ _ _, Lo.nil _ _ _ _ _, Lo.nil _ _ _ _ _, fun _ => Lo.nil _ _ _ _ _, by simp [zeroLedger], by simp [zeroLedger], by simp [zeroLedger], fun i => by simp [zeroLedger, votedOf, vOf]⟩
theorem SAt.none (B : Nat) (w : World) : SAt B w ⟨noLV, noLV⟩ zeroHouse := ⟨LAt.none _ _, LAt.none _ _⟩
def AsOfPost (R : House × Int) (w : World) (e : Ending) (w' : World) : Prop :=
  ∃ X, e = .returned (.tuple #[.agg #[.int .i64 R.1.tick, .int .i64 R.1.real.items, .slice X.r.fa R.1.real.facts.length X.r.fc, .slice X.r.ma R.1.real.motions.length X.r.mc, .slice X.r.sa R.1.real.sent.length X.r.sc, .int .i64 R.1.drill.items, .slice X.d.fa R.1.drill.facts.length X.d.fc, .slice X.d.ma R.1.drill.motions.length X.d.mc, .slice X.d.sa R.1.drill.sent.length X.d.sc], .int .i64 R.2]) ∧ SAt w'.heap.size w' X R.1 ∧ Kp w.heap.size none w w'
theorem asOf_zero {R : House × Int} {er : Int} {w w' : World} (h : R = (zeroHouse, er)) (k : Kp w.heap.size none w w') :
    AsOfPost R w (.returned (.tuple #[.agg #[.int .i64 0, .int .i64 0, .slice none 0 0, .slice none 0 0, .slice none 0 0, .int .i64 0, .slice none 0 0, .slice none 0 0, .slice none 0 0], .int .i64 er])) w' := by
  subst h
  exact ⟨⟨noLV, noLV⟩, rfl, SAt.none _ _, k⟩
theorem put_see {ab B n : Nat} {wb w : World} {v : Ky → Value} {a : House} {c : Council} (Q : Kp wb.heap.size none wb w) (YB : Blk w ab 43 zeroCells) (HA : HAt B w v a) (hap : ab < B) (hB : wb.heap.size ≤ ab) (X : HV) (hX : X = hvOf v) (ho : HouseOk c n a) (hn : n ≤ 1000000) :
    Kp wb.heap.size none wb (putH w ab X a) ∧ Blk (putH w ab X a) ab 43 #[.int .i64 a.tick, .int .i64 a.real.items, .slice X.r.fa a.real.facts.length X.r.fc, .slice X.r.ma a.real.motions.length X.r.mc, .slice X.r.sa a.real.sent.length X.r.sc, .int .i64 a.drill.items, .slice X.d.fa a.drill.facts.length X.d.fc, .slice X.d.ma a.drill.motions.length X.d.mc, .slice X.d.sa a.drill.sent.length X.d.sc] ∧ SAt (putH w ab X a).heap.size (putH w ab X a) X a :=
  ⟨Q.grownN (putH_grown _ _ _ _) Q.size hB, Blk.setR0 YB _ _ _ _ _ _ _ _ _, by
    rw [hX]
    exact (HA.set (putH_grown _ _ _ _) fun k e => by have := (HA.ge k _ e).1; omega).sat ho hn⟩
theorem Rd.take0 {α : Type} {row : Option Nat} {w : World} {sz : Nat} {enc : α → List Value} {A : Option Addr} {xs : List α} (h : Rd row w sz enc A xs.length xs) (n : Nat) (hn : n ≤ xs.length) : Rd row w sz enc A (xs.take n).length (xs.take n) := by
  refine ⟨rfl, fun h0 => ?_⟩
  rw [List.length_take] at h0
  obtain ⟨b, o, e, hb, hr, hc⟩ := h.2 (by omega)
  refine ⟨b, o, e, hb, hr, fun i hi j v hv => hc i (by rw [List.length_take] at hi; omega) j v ?_⟩
  rw [← hv, List.getElem_take]
set_option maxRecDepth 20000 in
set_option maxHeartbeats 4000000 in
theorem council_AsOf_any (V : CV) (c : Council) (A : Option Addr) (cap : Nat) (l : List CItem) (t : Int) (w : World) (hc : CAt w.heap.size w V c) (hr : Rd none w 9 encItem A l.length l) (hl : l.length ≤ 1000000) (hcap : l.length ≤ cap) :
    Calls Tryz.prog 7 #[.agg #[.slice V.am c.members.length V.cm, .slice V.al c.laws.length V.cl, .slice V.av c.levels.length V.cv], .slice A l.length cap, .int .i64 t] w (AsOfPost (asOfC c l t) w) := by
  obtain ⟨R, hR⟩ : ∃ R, R = asOfC c l t := ⟨_, rfl⟩
  rw [← hR]
  have CB := ((Blk.new w 28 #[.slice V.am c.members.length V.cm, .slice V.al c.laws.length V.cl, .slice V.av c.levels.length V.cv]).alloc (.cells #[.int .i64 t] 2)).alloc (.cells zeroCells 43)
  have TB := (Blk.newAt (w.alloc (.cells #[.slice V.am c.members.length V.cm, .slice V.al c.laws.length V.cl, .slice V.av c.levels.length V.cv] 28)) 2 #[.int .i64 t] (n := w.heap.size + 1) (by simp)).alloc (.cells zeroCells 43)
  have RB := Blk.newAt ((w.alloc (.cells #[.slice V.am c.members.length V.cm, .slice V.al c.laws.length V.cl, .slice V.av c.levels.length V.cv] 28)).alloc (.cells #[.int .i64 t] 2)) 43 zeroCells (n := w.heap.size + 1 + 1) (by simp)
  have KK := (Kp.new2 w (.cells #[.slice V.am c.members.length V.cm, .slice V.al c.laws.length V.cl, .slice V.av c.levels.length V.cv] 28) (.cells #[.int .i64 t] 2)).alloc (by simp; omega) (.cells zeroCells 43)
  replace hc := hc.next KK
  replace hr := hr.kpN KK
  have eg : ∀ args w, (callFunc 32 args).run Tryz.prog w = .ok (.enter 32 args) w := enters_of Tryz.func32 (by kernel_rfl) rfl
  go_enter Tryz.func7, Tryz.ntmps7
  go_upto_region 1 with (fail)
  change Code.wp _ _ _ _ (((w.alloc (.cells #[.slice V.am c.members.length V.cm, .slice V.al c.laws.length V.cl, .slice V.av c.levels.length V.cv] 28)).alloc (.cells #[.int .i64 t] 2)).alloc (.cells zeroCells 43))
  obtain ⟨cb, hb1⟩ : ∃ q, q = w.heap.size := ⟨_, rfl⟩
  obtain ⟨tb, hb2⟩ : ∃ q, q = w.heap.size + 1 := ⟨_, rfl⟩
  obtain ⟨rb, hb3⟩ : ∃ q, q = w.heap.size + 1 + 1 := ⟨_, rfl⟩
  rw [← hb3, ← hb2, ← hb1]
  rw [← hb1] at CB
  rw [← hb2] at TB
  rw [← hb3] at RB
  have hrw : w.heap.size ≤ rb := by omega
  generalize ((w.alloc (.cells #[.slice V.am c.members.length V.cm, .slice V.al c.laws.length V.cl, .slice V.av c.levels.length V.cv] 28)).alloc (.cells #[.int .i64 t] 2)).alloc (.cells zeroCells 43) = w1 at CB TB RB KK hc hr ⊢
  clear hb1 hb2 hb3
  have cc := fun i => CB.cell i
  go_wp2_with fail
  refine (council_Check_any _ V c _ hc).mono ?_
  rintro e w2 ⟨rfl, k2⟩
  replace hc := hc.next k2
  replace hr := hr.kpN k2
  replace CB := CB.kpN k2
  replace TB := TB.kpN k2
  replace RB := RB.kpN k2
  replace KK := KK.thenN k2 (Nat.le_refl _)
  clear k2 cc
  have cc := fun i => CB.cell i
  have ct := fun i => TB.cell i
  have cr := fun i => RB.cell i
  have fr := fun i => RB.frozen i
  simp only [zeroCells] at cr
  by_cases h1 : checkC c = 0
  case neg =>
    rw [show asOfC c l t = (zeroHouse, checkC c) by unfold asOfC; rw [if_pos h1]] at hR
    replace hR := Lib.hid hR
    generalize checkC c = ce at h1 hR ⊢
    have h1' : (ce == 0) = false := by simpa using h1
    go_wp2_with fail
    have K9 := setR0_kp KK hrw (.int .i64 0) (.int .i64 0) (.slice none 0 0) (.slice none 0 0) (.slice none 0 0) (.int .i64 0) (.slice none 0 0) (.slice none 0 0) (.slice none 0 0)
    have R9 := Blk.setR0 RB (.int .i64 0) (.int .i64 0) (.slice none 0 0) (.slice none 0 0) (.slice none 0 0) (.int .i64 0) (.slice none 0 0) (.slice none 0 0) (.slice none 0 0)
    change bodyPost _ _ _ _ _ (setR0 w2 rb (.int .i64 0) (.int .i64 0) (.slice none 0 0) (.slice none 0 0) (.slice none 0 0) (.int .i64 0) (.slice none 0 0) (.slice none 0 0) (.slice none 0 0))
    generalize setR0 w2 rb (.int .i64 0) (.int .i64 0) (.slice none 0 0) (.slice none 0 0) (.slice none 0 0) (.int .i64 0) (.slice none 0 0) (.slice none 0 0) (.slice none 0 0) = w9 at K9 R9 ⊢
    have c9 := fun i => R9.cell i
    exact bodyPost_ret (v := .tuple #[.agg #[.int .i64 0, .int .i64 0, .slice none 0 0, .slice none 0 0, .slice none 0 0, .int .i64 0, .slice none 0 0, .slice none 0 0, .slice none 0 0], .int .i64 (ce)]) (by simp [results, Tryz.results7, go_sem, c9]) rfl (asOf_zero hR.out K9)
  case pos =>
    have hR2 : R = if 2000 < l.length then (zeroHouse, 8) else if t < 0 ∨ 1073741824 < t then (zeroHouse, 2) else ((buildC c (upTo l t)).1, 0) := by rw [hR]; unfold asOfC; rw [if_neg (by simpa using h1)]
    clear hR
    rw [h1]
    by_cases h2 : 2000 < l.length
    · rw [if_pos h2] at hR2
      have hR := Lib.hid hR2
      have h2' : 2000 < (l.length : Int) := by omega
      clear hR2
      go_wp2_with fail
      have K9 := setR0_kp KK hrw (.int .i64 0) (.int .i64 0) (.slice none 0 0) (.slice none 0 0) (.slice none 0 0) (.int .i64 0) (.slice none 0 0) (.slice none 0 0) (.slice none 0 0)
      have R9 := Blk.setR0 RB (.int .i64 0) (.int .i64 0) (.slice none 0 0) (.slice none 0 0) (.slice none 0 0) (.int .i64 0) (.slice none 0 0) (.slice none 0 0) (.slice none 0 0)
      change bodyPost _ _ _ _ _ (setR0 w2 rb (.int .i64 0) (.int .i64 0) (.slice none 0 0) (.slice none 0 0) (.slice none 0 0) (.int .i64 0) (.slice none 0 0) (.slice none 0 0) (.slice none 0 0))
      generalize setR0 w2 rb (.int .i64 0) (.int .i64 0) (.slice none 0 0) (.slice none 0 0) (.slice none 0 0) (.int .i64 0) (.slice none 0 0) (.slice none 0 0) (.slice none 0 0) = w9 at K9 R9 ⊢
      have c9 := fun i => R9.cell i
      exact bodyPost_ret (v := .tuple #[.agg #[.int .i64 0, .int .i64 0, .slice none 0 0, .slice none 0 0, .slice none 0 0, .int .i64 0, .slice none 0 0, .slice none 0 0, .slice none 0 0], .int .i64 (8)]) (by simp [results, Tryz.results7, go_sem, c9]) rfl (asOf_zero hR.out K9)
    rw [if_neg h2] at hR2
    have h2' : ¬ 2000 < (l.length : Int) := by omega
    clear h2
    replace hR2 := Lib.hid hR2
    go_wp2_with fail
    refine (council_within_any t 0 1073741824 _).mono ?_
    rintro e w3 ⟨rfl, k3⟩
    replace hc := hc.next k3
    replace hr := hr.kpN k3
    replace CB := CB.kpN k3
    replace TB := TB.kpN k3
    replace RB := RB.kpN k3
    replace KK := KK.thenN k3 (Nat.le_refl _)
    clear k3 cc ct cr fr h2'
    replace hR2 := hR2.out
    by_cases h3 : t < 0 ∨ 1073741824 < t
    · rw [if_pos h3] at hR2
      have hR := Lib.hid hR2
      clear hR2
      have hb : bt t 0 1073741824 = false := by unfold bt; rcases h3 with h | h <;> simp <;> omega
      rw [hb]
      have cr := fun i => RB.cell i
      have fr := fun i => RB.frozen i
      simp only [zeroCells] at cr
      clear h3 hb
      go_wp2_with fail
      have K9 := setR0_kp KK hrw (.int .i64 0) (.int .i64 0) (.slice none 0 0) (.slice none 0 0) (.slice none 0 0) (.int .i64 0) (.slice none 0 0) (.slice none 0 0) (.slice none 0 0)
      have R9 := Blk.setR0 RB (.int .i64 0) (.int .i64 0) (.slice none 0 0) (.slice none 0 0) (.slice none 0 0) (.int .i64 0) (.slice none 0 0) (.slice none 0 0) (.slice none 0 0)
      change bodyPost _ _ _ _ _ (setR0 w3 rb (.int .i64 0) (.int .i64 0) (.slice none 0 0) (.slice none 0 0) (.slice none 0 0) (.int .i64 0) (.slice none 0 0) (.slice none 0 0) (.slice none 0 0))
      generalize setR0 w3 rb (.int .i64 0) (.int .i64 0) (.slice none 0 0) (.slice none 0 0) (.slice none 0 0) (.int .i64 0) (.slice none 0 0) (.slice none 0 0) (.slice none 0 0) = w9 at K9 R9 ⊢
      have c9 := fun i => R9.cell i
      exact bodyPost_ret (v := .tuple #[.agg #[.int .i64 0, .int .i64 0, .slice none 0 0, .slice none 0 0, .slice none 0 0, .int .i64 0, .slice none 0 0, .slice none 0 0, .slice none 0 0], .int .i64 (2)]) (by simp [results, Tryz.results7, go_sem, c9]) rfl (asOf_zero hR.out K9)
    rw [if_neg h3] at hR2
    have hb : bt t 0 1073741824 = true := by unfold bt; simp; omega
    rw [hb]
    clear hb h3
    obtain ⟨⟨x, ix, er⟩, hQ⟩ : ∃ q, q = buildC c (upTo l t) := ⟨_, rfl⟩
    have hxo := buildC_ok c (upTo l t)
    rw [← hQ] at hR2 hxo
    simp only at hR2 hxo
    have hul := upTo_len l t
    have hR := Lib.hid hR2
    replace hxo := Lib.hid hxo
    clear hR2
    have ct := fun i => TB.cell i
    replace hR := Lib.hid hR.out
    replace hQ := Lib.hid hQ
    replace RB := Lib.hid RB
    replace KK := Lib.hid KK
    go_wp2_with fail
    refine (indexItem_any 32 _ (fun x => decide (t < x.tick)) eg A cap l w3 (asOf1_pred _ _ _ (TB.cell 0)) hr hl).mono ?_
    rintro e w4 ⟨rfl, k4⟩
    replace hc := hc.next k4
    replace hr := hr.kpN k4
    replace CB := CB.kpN k4
    replace RB := RB.out.kpN k4
    replace KK := KK.out.thenN k4 (Nat.le_refl _)
    replace hQ := hQ.out
    clear k4 TB ct eg h1
    have cc := fun i => CB.cell i
    rcases idx_upTo t l 0 with ⟨h5, h6⟩ | ⟨i, hi, h5, h6⟩
    · rw [h5]
      rw [h6] at hQ
      have hcall := build_see V c A cap l _ hc hr hl
      rw [← hQ] at hcall
      clear h5 h6 hQ hc hr
      go_wp2_with fail
      refine hcall.mono ?_
      rintro e w5 ⟨v, X, hX, rfl, HA, -, k5⟩
      simp only at HA ⊢
      replace hX := Lib.hid hX
      have hrb4 := RB.lt
      replace RB := RB.kpN k5
      replace KK := KK.thenN k5 (Nat.le_refl _)
      clear k5 cc hcall
      have kh := Kp.new w5 (.cells #[.int .i64 x.tick, .int .i64 x.real.items, .slice X.r.fa x.real.facts.length X.r.fc, .slice X.r.ma x.real.motions.length X.r.mc, .slice X.r.sa x.real.sent.length X.r.sc, .int .i64 x.drill.items, .slice X.d.fa x.drill.facts.length X.d.fc, .slice X.d.ma x.drill.motions.length X.d.mc, .slice X.d.sa x.drill.sent.length X.d.sc] 43)
      have HB := Blk.new w5 43 #[.int .i64 x.tick, .int .i64 x.real.items, .slice X.r.fa x.real.facts.length X.r.fc, .slice X.r.ma x.real.motions.length X.r.mc, .slice X.r.sa x.real.sent.length X.r.sc, .int .i64 x.drill.items, .slice X.d.fa x.drill.facts.length X.d.fc, .slice X.d.ma x.drill.motions.length X.d.mc, .slice X.d.sa x.drill.sent.length X.d.sc]
      replace RB := RB.kpN kh
      replace KK := KK.thenN kh (Nat.le_refl _)
      replace HA := HA.kpN kh
      clear kh
      go_upto_region 12 with (fail)
      change Code.wp _ _ _ _ (w5.alloc (.cells #[.int .i64 x.tick, .int .i64 x.real.items, .slice X.r.fa x.real.facts.length X.r.fc, .slice X.r.ma x.real.motions.length X.r.mc, .slice X.r.sa x.real.sent.length X.r.sc, .int .i64 x.drill.items, .slice X.d.fa x.drill.facts.length X.d.fc, .slice X.d.ma x.drill.motions.length X.d.mc, .slice X.d.sa x.drill.sent.length X.d.sc] 43))
      obtain ⟨hb, hhb⟩ : ∃ q, q = w5.heap.size := ⟨_, rfl⟩
      rw [← hhb] at HB
      rw [← hhb]
      generalize w5.alloc (.cells #[.int .i64 x.tick, .int .i64 x.real.items, .slice X.r.fa x.real.facts.length X.r.fc, .slice X.r.ma x.real.motions.length X.r.mc, .slice X.r.sa x.real.sent.length X.r.sc, .int .i64 x.drill.items, .slice X.d.fa x.drill.facts.length X.d.fc, .slice X.d.ma x.drill.motions.length X.d.mc, .slice X.d.sa x.drill.sent.length X.d.sc] 43) = w6 at HB RB KK HA ⊢
      clear hhb
      have ch := fun i => HB.cell i
      have cr := fun i => RB.cell i
      have fr := fun i => RB.frozen i
      simp only [zeroCells] at cr
      obtain ⟨k9, b9, s9⟩ := put_see KK RB HA hrb4 hrw X hX.out hxo.out (by omega)
      replace k9 := Lib.hid k9
      replace b9 := Lib.hid b9
      replace s9 := Lib.hid s9
      clear HA RB HB KK hX
      go_wp2_with fail
      change bodyPost _ _ _ _ _ (putH w6 rb X x)
      replace k9 := k9.out
      replace b9 := b9.out
      replace s9 := s9.out
      generalize putH w6 rb X x = w9 at k9 b9 s9 ⊢
      have c9 := fun i => b9.cell i
      have hR3 := hR.out
      subst hR3
      exact bodyPost_ret (v := .tuple #[.agg #[.int .i64 x.tick, .int .i64 x.real.items, .slice X.r.fa x.real.facts.length X.r.fc, .slice X.r.ma x.real.motions.length X.r.mc, .slice X.r.sa x.real.sent.length X.r.sc, .int .i64 x.drill.items, .slice X.d.fa x.drill.facts.length X.d.fc, .slice X.d.ma x.drill.motions.length X.d.mc, .slice X.d.sa x.drill.sent.length X.d.sc], .int .i64 0]) (by simp [results, Tryz.results7, go_sem, c9]) rfl ⟨X, rfl, s9, k9⟩
    · rw [h5]
      simp only [Int.zero_add]
      rw [h6] at hQ
      have hcall := build_see V c A cap (l.take i) _ hc (hr.take0 i (by omega)) (by rw [List.length_take]; omega)
      rw [← hQ, List.length_take, Nat.min_eq_left (by omega)] at hcall
      have hi1 : (i : Int) ≤ (cap : Int) := by omega
      have hi2 : i ≤ cap := by omega
      have hi0 : 0 ≤ (i : Int) := by omega
      clear h5 h6 hQ hc hr
      go_wp2_with fail
      refine hcall.mono ?_
      rintro e w5 ⟨v, X, hX, rfl, HA, -, k5⟩
      simp only at HA ⊢
      replace hX := Lib.hid hX
      have hrb4 := RB.lt
      replace RB := RB.kpN k5
      replace KK := KK.thenN k5 (Nat.le_refl _)
      clear k5 cc hcall
      have kh := Kp.new w5 (.cells #[.int .i64 x.tick, .int .i64 x.real.items, .slice X.r.fa x.real.facts.length X.r.fc, .slice X.r.ma x.real.motions.length X.r.mc, .slice X.r.sa x.real.sent.length X.r.sc, .int .i64 x.drill.items, .slice X.d.fa x.drill.facts.length X.d.fc, .slice X.d.ma x.drill.motions.length X.d.mc, .slice X.d.sa x.drill.sent.length X.d.sc] 43)
      have HB := Blk.new w5 43 #[.int .i64 x.tick, .int .i64 x.real.items, .slice X.r.fa x.real.facts.length X.r.fc, .slice X.r.ma x.real.motions.length X.r.mc, .slice X.r.sa x.real.sent.length X.r.sc, .int .i64 x.drill.items, .slice X.d.fa x.drill.facts.length X.d.fc, .slice X.d.ma x.drill.motions.length X.d.mc, .slice X.d.sa x.drill.sent.length X.d.sc]
      replace RB := RB.kpN kh
      replace KK := KK.thenN kh (Nat.le_refl _)
      replace HA := HA.kpN kh
      clear kh
      go_upto_region 12 with (fail)
      change Code.wp _ _ _ _ (w5.alloc (.cells #[.int .i64 x.tick, .int .i64 x.real.items, .slice X.r.fa x.real.facts.length X.r.fc, .slice X.r.ma x.real.motions.length X.r.mc, .slice X.r.sa x.real.sent.length X.r.sc, .int .i64 x.drill.items, .slice X.d.fa x.drill.facts.length X.d.fc, .slice X.d.ma x.drill.motions.length X.d.mc, .slice X.d.sa x.drill.sent.length X.d.sc] 43))
      obtain ⟨hb, hhb⟩ : ∃ q, q = w5.heap.size := ⟨_, rfl⟩
      rw [← hhb] at HB
      rw [← hhb]
      generalize w5.alloc (.cells #[.int .i64 x.tick, .int .i64 x.real.items, .slice X.r.fa x.real.facts.length X.r.fc, .slice X.r.ma x.real.motions.length X.r.mc, .slice X.r.sa x.real.sent.length X.r.sc, .int .i64 x.drill.items, .slice X.d.fa x.drill.facts.length X.d.fc, .slice X.d.ma x.drill.motions.length X.d.mc, .slice X.d.sa x.drill.sent.length X.d.sc] 43) = w6 at HB RB KK HA ⊢
      clear hhb
      have ch := fun i => HB.cell i
      have cr := fun i => RB.cell i
      have fr := fun i => RB.frozen i
      simp only [zeroCells] at cr
      obtain ⟨k9, b9, s9⟩ := put_see KK RB HA hrb4 hrw X hX.out hxo.out (by omega)
      replace k9 := Lib.hid k9
      replace b9 := Lib.hid b9
      replace s9 := Lib.hid s9
      clear HA RB HB KK hX
      go_wp2_with fail
      change bodyPost _ _ _ _ _ (putH w6 rb X x)
      replace k9 := k9.out
      replace b9 := b9.out
      replace s9 := s9.out
      generalize putH w6 rb X x = w9 at k9 b9 s9 ⊢
      have c9 := fun i => b9.cell i
      have hR3 := hR.out
      subst hR3
      exact bodyPost_ret (v := .tuple #[.agg #[.int .i64 x.tick, .int .i64 x.real.items, .slice X.r.fa x.real.facts.length X.r.fc, .slice X.r.ma x.real.motions.length X.r.mc, .slice X.r.sa x.real.sent.length X.r.sc, .int .i64 x.drill.items, .slice X.d.fa x.drill.facts.length X.d.fc, .slice X.d.ma x.drill.motions.length X.d.mc, .slice X.d.sa x.drill.sent.length X.d.sc], .int .i64 0]) (by simp [results, Tryz.results7, go_sem, c9]) rfl ⟨X, rfl, s9, k9⟩
end Go.Proofs.YtogpgnljomchcaaGreat
