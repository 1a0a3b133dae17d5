/- move: the reference. -/
import Derived.Test.YtogpgnljomchcaaRf
namespace Go.Proofs.Ytogpgnljomchcaa
open Go.RowKit

def RAtLaw0 (B hb cb xb : Nat) (V : CV) (c : Council) (v0 v : Ky → Value) (h : House) (x : CItem) (act : Int) (w : World) (v7 v8 : Value) (wx : World) : Prop :=
  ∃ lb, v7 = .pointer (some ⟨lb, 0, none⟩) ∧ v8 = .bool (lawOf c act).isSome ∧ GS B hb cb xb V c v0 v h x w wx ∧ Lcl hb v wx lb 61 #[.int .i64 (lawD c act).act, .int .i64 (lawD c act).level, .int .i64 (lawD c act).window, .int .i64 (lawD c act).quorum, .int .i64 (lawD c act).share]
def RAtOf (B hb cb xb : Nat) (V : CV) (c : Council) (v0 v : Ky → Value) (h : House) (x : CItem) (d : Bool) (t : Int) (w : World) (v7 v8 : Value) (wx : World) : Prop :=
  ∃ kb, v7 = .pointer (some ⟨kb, 0, none⟩) ∧ v8 = .bool (knownOf (h.led d) t).isSome ∧ GS B hb cb xb V c v0 v h x w wx ∧ Lcl hb v wx kb 71 #[.int .i64 (knD (h.led d).facts t).target, .int .i64 (knD (h.led d).facts t).level, .int .i64 (knD (h.led d).facts t).item, .int .i64 (knD (h.led d).facts t).chance.least, .int .i64 (knD (h.led d).facts t).chance.most, .int .i64 (knD (h.led d).facts t).chance.all]
def RMoveAt (B hb cb xb : Nat) (V : CV) (c : Council) (v : Ky → Value) (h : House) (x : CItem) (lb kb : Nat) (R : Bool) (nm : Nat) (w : World) (u : Value) (wr : World) : Prop :=
  ∃ i : Nat, u = .int .i64 i ∧ i ≤ nm ∧ ((h.led x.drill).motions.drop i).any (openSame x.a x.b) = R ∧ GS B hb cb xb V c v v h x w wr
theorem any_drop {α : Type} (p : α → Bool) (l : List α) (i : Nat) (hi : i < l.length) : (l.drop i).any p = (p l[i] || (l.drop (i + 1)).any p) := by
  rw [List.drop_eq_getElem_cons hi, List.any_cons]
/-- the four cells of a ledger, as slices -/
theorem RH.led4 {B hb : Nat} {w : World} {v : Ky → Value} {h : House} (p : RH B hb w v h) (d : Bool) : ∃ Af cf Am cm As cs, v (.facts d) = .slice Af (h.led d).facts.length cf ∧ v (.motions d) = .slice Am (h.led d).motions.length cm ∧ v (.sent d) = .slice As (h.led d).sent.length cs := by
  obtain ⟨Af, cf, e1, -⟩ := (p.rows.facts d).rd0 (fun _ => rfl)
  obtain ⟨Am, cm, e2, -⟩ := (p.rows.motions d).rd0 (fun _ => rfl)
  obtain ⟨As, cs, e3, -⟩ := (p.rows.sent d).rd0 (fun _ => rfl)
  rw [zipV_len] at e2
  exact ⟨Af, cf, Am, cm, As, cs, e1, e2, e3⟩
theorem RH.factsRd {B hb : Nat} {w : World} {v : Ky → Value} {h : House} (p : RH B hb w v h) (d : Bool) {A : Option Addr} {n cap : Nat} (e : v (.facts d) = .slice A n cap) : Rd none w 6 encKnown A (h.led d).facts.length (h.led d).facts := by
  obtain ⟨A', cap', e', rd', -⟩ := (p.rows.facts d).rd0 (fun _ => rfl)
  rw [e] at e'
  simp only [Value.slice.injEq] at e'
  obtain ⟨rfl, -, rfl⟩ := e'
  exact rd'
set_option maxRecDepth 20000 in
set_option maxHeartbeats 40000000 in
theorem ref_move_any (B hb n : Nat) (V : CV) (c : Council) (v : Ky → Value) (h : House) (x : CItem) (w : World) (p : RH B hb w v h) (hC : CAt B w V c) (hk : HouseOk c n h) (hn : n ≤ 4000) :
    Calls Try.prog 65 #[.agg #[.slice V.am c.members.length V.cm, .slice V.al c.laws.length V.cl, .slice V.av c.levels.length V.cv], .pointer (some ⟨hb, rD x.drill, none⟩), .agg #[.int .i64 x.kind, .int .i64 x.tick, .bool x.drill, .int .i64 x.a, .int .i64 x.b, .bool x.yes, .int .i64 x.chance.least, .int .i64 x.chance.most, .int .i64 x.chance.all]] w (RDPost B hb v h x (moveE c (h.led x.drill) x) (moveL (h.led x.drill) x) w) := by
  have S := GS.start p hC x
  have hhw : hb < w.heap.size := p.lt
  have hBw : B ≤ w.heap.size := by have := p.low; omega
  obtain ⟨cb, hcb⟩ : ∃ q, q = w.heap.size := ⟨_, rfl⟩
  obtain ⟨xb, hxb⟩ : ∃ q, q = w.heap.size + 1 := ⟨_, rfl⟩
  obtain ⟨E, hE⟩ : ∃ q, q = moveE c (h.led x.drill) x := ⟨_, rfl⟩
  rw [← hE]
  replace hE := Lib.hid hE
  obtain ⟨o, ho⟩ : ∃ q, q = rD x.drill := ⟨_, rfl⟩
  rw [← ho]
  replace ho := Lib.hid ho
  replace hk := Lib.hid hk
  go_enter Try.func65, Try.ntmps65
  go_upto_region 1 with (fail)
  rw [← hxb, ← hcb] at S
  rw [← hxb, ← hcb]
  have hcw : w.heap.size ≤ cb := by omega
  have hxw : w.heap.size ≤ xb := by omega
  have hcx : cb ≠ xb := by omega
  have hhc : hb ≠ cb := by omega
  have hhx : hb ≠ xb := by omega
  replace hxb := Lib.hid hxb
  replace hcb := Lib.hid hcb
  generalize (w.alloc (.cells #[.slice V.am c.members.length V.cm, .slice V.al c.laws.length V.cl, .slice V.av c.levels.length V.cv] 26)).alloc (.cells #[.int .i64 x.kind, .int .i64 x.tick, .bool x.drill, .int .i64 x.a, .int .i64 x.b, .bool x.yes, .int .i64 x.chance.least, .int .i64 x.chance.most, .int .i64 x.chance.all] 31) = w1 at S ⊢
  have cx := fun i => S.x.blk.cell i
  have cc := fun i => S.cl.blk.cell i
  go_wp2_with fail
  refine (ref_lawOf_any x.b B V c _ S.ca).mono ?_
  rintro e w2 ⟨rfl, k2⟩
  replace S := S.kpN k2
  clear k2 cx cc
  obtain ⟨D, hD⟩ : ∃ q, q = (lawOf c x.b).isSome := ⟨_, rfl⟩
  rw [← hD]
  replace hD := Lib.hid hD
  obtain ⟨lb, wq, hwq, hlb, S2, LB, hl0, hlc, hlx, hBl⟩ := S.fresh 61 #[.int .i64 (lawD c x.b).act, .int .i64 (lawD c x.b).level, .int .i64 (lawD c x.b).window, .int .i64 (lawD c x.b).quorum, .int .i64 (lawD c x.b).share]
  go_upto_region 2 with (fail)
  rw [← hwq, ← hlb]
  clear S hwq
  have S := S2
  clear S2
  replace hlb := Lib.hid hlb
  obtain ⟨Af, cf, Am, cm, As, cs, ef, em, es⟩ := S.p.led4 x.drill
  have hfl : (h.led x.drill).facts.length ≤ 4000 := by have := (hk.out.led x.drill).flen; omega
  have hcells : ∀ W, Blk W hb 46 (rCells v h) → W.cell? ⟨hb, o, none⟩ = some (.int .i64 (h.led x.drill).items) ∧ W.cell? ⟨hb, o + 1, none⟩ = some (.slice Af (h.led x.drill).facts.length cf) ∧ W.cell? ⟨hb, o + 2, none⟩ = some (.slice Am (h.led x.drill).motions.length cm) ∧ W.cell? ⟨hb, o + 3, none⟩ = some (.slice As (h.led x.drill).sent.length cs) := fun W b => by
    rw [ho.out, ← ef, ← em, ← es]
    exact ⟨(b.cell _).trans (rCells_items _ _ _), (b.cell _).trans (rCells_facts _ _ _), (b.cell _).trans (rCells_mot _ _ _), (b.cell _).trans (rCells_sent _ _ _)⟩
  replace hcells := Lib.hid hcells
  replace ef := Lib.hid ef
  replace em := Lib.hid em
  replace es := Lib.hid es
  go_cut [9, 10] (fun v9 v10 wx => RAtOf B hb cb xb V c v v h x x.drill x.a w v9 v10 wx ∧ Lcl hb v wx lb 61 #[.int .i64 (lawD c x.b).act, .int .i64 (lawD c x.b).level, .int .i64 (lawD c x.b).window, .int .i64 (lawD c x.b).quorum, .int .i64 (lawD c x.b).share])
  case first =>
    replace S := S.drew
    replace LB := LB.kpN (Kp.refl _ _ _).drew
    obtain ⟨S0, hS⟩ : ∃ S0 : World → Prop, S0 = fun w' => Blk w' xb 31 #[.int .i64 x.kind, .int .i64 x.tick, .bool x.drill, .int .i64 x.a, .int .i64 x.b, .bool x.yes, .int .i64 x.chance.least, .int .i64 x.chance.most, .int .i64 x.chance.all] ∧ Blk w' hb 46 (rCells v h) := ⟨_, rfl⟩
    have hS0 : ∀ w', S0 w' ↔ (Blk w' xb 31 #[.int .i64 x.kind, .int .i64 x.tick, .bool x.drill, .int .i64 x.a, .int .i64 x.b, .bool x.yes, .int .i64 x.chance.least, .int .i64 x.chance.most, .int .i64 x.chance.all] ∧ Blk w' hb 46 (rCells v h)) := fun w' => by rw [hS]
    clear hS
    have cx := fun (q : Ev S0) i => ((hS0 _).1 q.h).1.cell i
    have g0 := fun (q : Ev S0) => (hcells.out _ ((hS0 _).1 q.h).2).1
    have g1 := fun (q : Ev S0) => (hcells.out _ ((hS0 _).1 q.h).2).2.1
    have g2 := fun (q : Ev S0) => (hcells.out _ ((hS0 _).1 q.h).2).2.2.1
    have g3 := fun (q : Ev S0) => (hcells.out _ ((hS0 _).1 q.h).2).2.2.2
    have hevT := ev_true
    refine wp_region_tr S0 (.st 0 0 (.st 1 0 (.st 2 1 (.st 3 0 (.st 4 1 (.b2 5 (.st 6 0 (.st 7 0 (.st 8 0 (.st 9 2 (.st 10 2 (.st 11 0 .nil)))))) 9 (.st 5 2 (.st 6 0 (.st 7 0 (.st 8 0 (.st 10 2 (.st 11 0 .nil)))))))))))) (by kernel_rfl) (by kernel_rfl) ((hS0 _).2 ⟨S.x.blk, S.p.blk⟩) ?_
    intro _hev
    iterate 5 (first | (refine wpTr_v rfl rfl ?_; intro K hK; go_big_quiet_op; go_big_quiet_on) | (refine wpTr_q rfl rfl ?_; intro K hK; go_big_quiet_op; go_big_quiet_on) | refine wpTr_s rfl rfl ?_)
    refine wpTr_b2 ?_ ?_
    · refine wpOne_l rfl rfl ?_; intro K hK
      go_step
      refine (ref_Of_any x.a _ Af cf (h.led x.drill).facts Am _ cm As _ cs _ (S.p.factsRd x.drill ef.out) (by omega)).mono ?_
      rintro e w5 ⟨rfl, k5⟩
      replace S := S.kpN k5
      replace LB := LB.kpN k5
      try (replace NB := NB.kpN k5)
      refine hK _ _ ((hS0 _).2 ⟨S.x.blk, S.p.blk⟩) ?_
      clear hK K k5
      iterate 3 (first | (refine wpTr_v rfl rfl ?_; intro K hK; go_big_quiet_op; go_big_quiet_on) | (refine wpTr_q rfl rfl ?_; intro K hK; go_big_quiet_op; go_big_quiet_on) | refine wpTr_s rfl rfl ?_)
      refine wpTr_l rfl rfl ?_; intro K hK
      obtain ⟨nb, wz, hwz, hnb, S2, NB, hn0, hnc, hnx, hBn⟩ := S.fresh 71 #[.int .i64 0, .int .i64 0, .int .i64 0, .int .i64 0, .int .i64 0, .int .i64 0]
      have kq := hwz ▸ Kp.new _ _
      have hln : lb ≠ nb := by have := LB.blk.lt; omega
      replace LB := LB.kpN kq
      clear S kq
      have S := S2
      clear S2
      go_step
      first | rw [← hwz] | rw [show (World.alloc wq (.cells #[.int .i64 0, .int .i64 0, .int .i64 0, .int .i64 0, .int .i64 0, .int .i64 0] 71)).drew = wz from hwz.symm]
      first | rw [← hnb] | rw [← show nb = wq.heap.size from hnb]
      replace hnb := Lib.hid hnb
      refine hK _ _ ((hS0 _).2 ⟨S.x.blk, S.p.blk⟩) ?_
      clear hK K hwz
      refine wpTr_l rfl rfl ?_; intro K hK
      have cN := fun i => NB.blk.cell i
      have fN := fun i => NB.blk.frozen i
      go_step
      have S2 := S.other (setK0_grown _ nb (knD (h.led x.drill).facts x.a)) NB.apart hn0 hnc hnx hBn
      have NB2 : Lcl hb v _ nb _ _ := ⟨Blk.setK0 NB.blk (knD (h.led x.drill).facts x.a), NB.apart⟩
      have LB2 := LB.other (setK0_grown _ nb (knD (h.led x.drill).facts x.a)) hln
      clear cN fN
      change K _ (setK0 _ nb (knD (h.led x.drill).facts x.a))
      generalize setK0 _ nb (knD (h.led x.drill).facts x.a) = w7 at S2 NB2 LB2 ⊢
      refine hK _ _ ((hS0 _).2 ⟨S2.x.blk, S2.p.blk⟩) ?_
      clear hK K
      iterate 1 (first | (refine wpTr_v rfl rfl ?_; intro K hK; go_big_quiet_op; go_big_quiet_on) | (refine wpTr_q rfl rfl ?_; intro K hK; go_big_quiet_op; go_big_quiet_on) | refine wpTr_s rfl rfl ?_)
      refine wpTr_nil ?_
      clear hevT _hev
      go_wp2_with fail
      go_meet
      case rel => exact ⟨⟨nb, rfl, rfl, S2, NB2⟩, LB2⟩
    · refine wpOne_l rfl rfl ?_; intro K hK
      obtain ⟨nb, wz, hwz, hnb, S2, NB, hn0, hnc, hnx, hBn⟩ := S.fresh 71 #[.int .i64 0, .int .i64 0, .int .i64 0, .int .i64 0, .int .i64 0, .int .i64 0]
      have kq := hwz ▸ Kp.new _ _
      have hln : lb ≠ nb := by have := LB.blk.lt; omega
      replace LB := LB.kpN kq
      clear S kq
      have S := S2
      clear S2
      go_step
      first | rw [← hwz] | rw [show (World.alloc wq (.cells #[.int .i64 0, .int .i64 0, .int .i64 0, .int .i64 0, .int .i64 0, .int .i64 0] 71)).drew = wz from hwz.symm]
      first | rw [← hnb] | rw [← show nb = wq.heap.size from hnb]
      replace hnb := Lib.hid hnb
      refine hK _ _ ((hS0 _).2 ⟨S.x.blk, S.p.blk⟩) ?_
      clear hK K hwz
      refine wpTr_l rfl rfl ?_; intro K hK
      go_step
      refine (ref_Of_any x.a _ Af cf (h.led x.drill).facts Am _ cm As _ cs _ (S.p.factsRd x.drill ef.out) (by omega)).mono ?_
      rintro e w5 ⟨rfl, k5⟩
      replace S := S.kpN k5
      replace LB := LB.kpN k5
      try (replace NB := NB.kpN k5)
      refine hK _ _ ((hS0 _).2 ⟨S.x.blk, S.p.blk⟩) ?_
      clear hK K k5
      iterate 3 (first | (refine wpTr_v rfl rfl ?_; intro K hK; go_big_quiet_op; go_big_quiet_on) | (refine wpTr_q rfl rfl ?_; intro K hK; go_big_quiet_op; go_big_quiet_on) | refine wpTr_s rfl rfl ?_)
      refine wpTr_l rfl rfl ?_; intro K hK
      have cN := fun i => NB.blk.cell i
      have fN := fun i => NB.blk.frozen i
      go_step
      have S2 := S.other (setK0_grown _ nb (knD (h.led x.drill).facts x.a)) NB.apart hn0 hnc hnx hBn
      have NB2 : Lcl hb v _ nb _ _ := ⟨Blk.setK0 NB.blk (knD (h.led x.drill).facts x.a), NB.apart⟩
      have LB2 := LB.other (setK0_grown _ nb (knD (h.led x.drill).facts x.a)) hln
      clear cN fN
      change K _ (setK0 _ nb (knD (h.led x.drill).facts x.a))
      generalize setK0 _ nb (knD (h.led x.drill).facts x.a) = w7 at S2 NB2 LB2 ⊢
      refine hK _ _ ((hS0 _).2 ⟨S2.x.blk, S2.p.blk⟩) ?_
      clear hK K
      iterate 1 (first | (refine wpTr_v rfl rfl ?_; intro K hK; go_big_quiet_op; go_big_quiet_on) | (refine wpTr_q rfl rfl ?_; intro K hK; go_big_quiet_op; go_big_quiet_on) | refine wpTr_s rfl rfl ?_)
      refine wpTr_nil ?_
      clear hevT _hev
      go_wp2_with fail
      go_meet
      case rel => exact ⟨⟨nb, rfl, rfl, S2, NB2⟩, LB2⟩
  case rest =>
  clear S LB
  rename World => w4
  obtain ⟨⟨kb, rfl, rfl, S, KB⟩, LB⟩ := hcut
  obtain ⟨D2, hD2⟩ : ∃ q, q = (knownOf (h.led x.drill) x.a).isSome := ⟨_, rfl⟩
  rw [← hD2]
  replace hD2 := Lib.hid hD2
  cases D
  · have e1 := Lib.hid (show 7 = E by rw [hE.out]; exact (moveE_7 (.inl hD.out.symm)).symm)
    go_wp2
    go_ret
    exact RDPost.err S e1.out (by rw [← e1.out]; decide)
  cases D2
  · have e1 := Lib.hid (show 7 = E by
      rw [hE.out]
      refine (moveE_7 (.inr ?_)).symm
      have := hD2.out
      cases hq : knownOf (h.led x.drill) x.a with
      | none => rfl
      | some k => rw [hq] at this; simp at this)
    go_wp2
    go_ret
    exact RDPost.err S e1.out (by rw [← e1.out]; decide)
  obtain ⟨k, hkk⟩ : ∃ k, knownOf (h.led x.drill) x.a = some k := Option.isSome_iff_exists.1 hD2.out.symm
  have hkd : knD (h.led x.drill).facts x.a = k := by unfold knD; unfold knownOf at hkk; rw [hkk]; rfl
  rw [hkd] at KB
  have hE2 := Lib.hid (hE.out.trans (moveE_s hD.out.symm hkk))
  clear hkd hE
  replace hkk := Lib.hid hkk
  have cl := fun i => LB.blk.cell i
  have ck := fun i => KB.blk.cell i
  have cx := fun i => S.x.blk.cell i
  by_cases q1 : k.level < (lawD c x.b).level
  · have e1 := Lib.hid (show 10 = E by rw [hE2.out, if_pos q1])
    go_wp2
    go_ret
    exact RDPost.err S e1.out (by rw [← e1.out]; decide)
  replace hE2 := Lib.hid (hE2.out.trans (if_neg q1))
  have hml : (h.led x.drill).motions.length ≤ 64 := (hk.out.led x.drill).mlen
  obtain ⟨nm, hnm⟩ : ∃ q, q = (h.led x.drill).motions.length := ⟨_, rfl⟩
  rw [← hnm] at hml
  replace hnm := Lib.hid hnm
  go_wp2_with fail
  obtain ⟨RR, hRR⟩ : ∃ q, q = (h.led x.drill).motions.any (openSame x.a x.b) := ⟨_, rfl⟩
  rw [← hRR] at hE2
  replace hRR := Lib.hid hRR
  have hAm : 0 < nm → ∃ g, Am = some ⟨g, 0, none⟩ := fun h0 => by
    obtain ⟨A', cap', e', hA'⟩ := S.p.motForm x.drill
    rw [em.out] at e'
    simp only [Value.slice.injEq] at e'
    obtain ⟨rfl, -, rfl⟩ := e'
    exact hA' (by rw [← hnm.out]; exact h0)
  replace hAm := Lib.hid hAm
  go_loopw [11] (fun u wr => RMoveAt B hb cb xb V c v h x lb kb RR nm w u wr) (fun u _ => nm - (intOf u).toNat)
  case atStart => exact ⟨0, rfl, Nat.zero_le _, by rw [List.drop_zero]; exact hRR.out.symm, S⟩
  case round =>
    clear cl ck cx KB LB S q1
    obtain ⟨i, rfl, hi, hj, S⟩ := hrel
    have cx := fun i => S.x.blk.cell i
    have c3 := (hcells.out _ S.p.blk).2.2.1
    rw [← hnm.out] at c3
    by_cases h7 : i < nm
    · obtain ⟨g3, rfl⟩ := hAm.out (by omega)
      have hi' : (i : Int) < (nm : Int) := by omega
      have hil : i < (h.led x.drill).motions.length := by rw [← hnm.out]; exact h7
      rw [any_drop _ _ i hil] at hj
      have mA := (S.p.motAt em.out i hil).1
      obtain ⟨Av, lv, cv, ev⟩ := slice_of S.p.rows (.voted x.drill i)
      rw [ev] at mA
      generalize (h.led x.drill).motions[i] = m at mA hj
      have m0 : wr.cell? ⟨g3, i * 8, none⟩ = some (.int .i64 m.target) := mA 0 _ rfl
      have m1 := mA 1 _ rfl
      have m2 := mA 2 _ rfl
      have m3 := mA 3 _ rfl
      have m4 := mA 4 _ rfl
      have m5 := mA 5 _ rfl
      have m6 := mA 6 _ rfl
      have m7 := mA 7 _ rfl
      clear mA ev
      have S2 := S.kpN (Kp.new wr (.cells #[.int .i64 m.target, .int .i64 m.act, .int .i64 m.opened, .int .i64 m.state, .int .i64 m.yes, .int .i64 m.no, (.slice Av lv cv), .int .i64 m.fact] 76))
      have X := Blk.new wr 76 #[.int .i64 m.target, .int .i64 m.act, .int .i64 m.opened, .int .i64 m.state, .int .i64 m.yes, .int .i64 m.no, (.slice Av lv cv), .int .i64 m.fact]
      obtain ⟨yb, hyb⟩ : ∃ q, q = wr.heap.size := ⟨_, rfl⟩
      replace h7 := Lib.hid h7
      replace hi := Lib.hid hi
      clear S
      go_upto_region 11 with (fail)
      rw [← hyb] at X ⊢
      clear m0 m1 m2 m3 m4 m5 m6 m7 c3 cx hyb
      generalize wr.alloc (.cells #[.int .i64 m.target, .int .i64 m.act, .int .i64 m.opened, .int .i64 m.state, .int .i64 m.yes, .int .i64 m.no, (.slice Av lv cv), .int .i64 m.fact] 76) = w5 at S2 X ⊢
      have S := S2
      clear S2
      have cx := fun i => S.x.blk.cell i
      have cy := fun i => X.cell i
      by_cases q2 : m.state = 1
      case neg =>
        have e : openSame x.a x.b m = false := by unfold openSame; simp [q2]
        rw [e, Bool.false_or] at hj
        replace hj := Lib.hid hj
        clear e
        go_wp2
        go_roundw
        case rel => exact ⟨i + 1, rfl, h7.out, hj.out, S⟩
        case measure => have := h7.out; simp [intOf]; omega
      by_cases q3 : m.target = x.a
      case neg =>
        have e : openSame x.a x.b m = false := by unfold openSame; simp [q3]
        rw [e, Bool.false_or] at hj
        replace hj := Lib.hid hj
        clear e
        go_wp2
        go_roundw
        case rel => exact ⟨i + 1, rfl, h7.out, hj.out, S⟩
        case measure => have := h7.out; simp [intOf]; omega
      by_cases q4 : m.act = x.b
      case neg =>
        have e : openSame x.a x.b m = false := by unfold openSame; simp [q4]
        rw [e, Bool.false_or] at hj
        replace hj := Lib.hid hj
        clear e
        go_wp2
        go_roundw
        case rel => exact ⟨i + 1, rfl, h7.out, hj.out, S⟩
        case measure => have := h7.out; simp [intOf]; omega
      have e : openSame x.a x.b m = true := by unfold openSame; simp [q2, q3, q4]
      rw [e, Bool.true_or] at hj
      have e1 := Lib.hid (show 9 = E by rw [hE2.out, ← hj]; rfl)
      clear e hj
      go_wp2
      go_ret
      exact RDPost.err S e1.out (by rw [← e1.out]; decide)
    · have he : i = nm := by omega
      have hi' : ¬ (i : Int) < (nm : Int) := by omega
      rw [he, hnm.out, List.drop_length] at hj
      have hE3 := Lib.hid (show E = if 64 ≤ nm then 8 else 0 by rw [hE2.out, ← hj, hnm.out]; rfl)
      clear hE2 hj hi h7
      subst he
      by_cases q5 : 64 ≤ i
      · have e1 := Lib.hid (show 8 = E by rw [hE3.out, if_pos q5])
        have q6 : (64 : Int) ≤ (i : Int) := by omega
        go_wp2
        go_ret
        exact RDPost.err S e1.out (by rw [← e1.out]; decide)
      have hE4 := Lib.hid (show E = 0 by rw [hE3.out, if_neg q5])
      have q6 : ¬ (64 : Int) ≤ (i : Int) := by omega
      obtain ⟨i0, hi0, hz0, hz1, hz2⟩ := info_parts info_motion
      clear hE3
      go_upto_region 15 with (fail)
      replace S := S.drew
      have T := S
      clear S cx c3
      obtain ⟨xs, hxs⟩ : ∃ xs, xs = zipV (fun i => v (.voted x.drill i)) 0 (h.led x.drill).motions := ⟨_, rfl⟩
      have hxl : xs.length = i := by rw [hxs, zipV_len, hnm.out]
      have own : Own wr.drew B 76 8 encVM (.slice Am i cm) xs := by
        have := T.p.rows.motions x.drill
        rw [em.out, ← hxs, ← hnm.out] at this
        exact this
      have hcs : ∀ W, Blk W hb 46 (rCells v h) → W.cell? ⟨hb, o + 2, none⟩ = some (.slice Am i cm) := fun W b => by rw [hnm.out]; exact (hcells.out W b).2.2.1
      have em2 := em.out
      rw [← hnm.out] at em2
      replace em2 := Lib.hid em2
      replace hxs := Lib.hid hxs
      replace hxl := Lib.hid hxl
      obtain ⟨S, hS⟩ : ∃ S : Nat → World → Prop, S = fun n w' => if n = 0 then Blk w' xb 31 #[.int .i64 x.kind, .int .i64 x.tick, .bool x.drill, .int .i64 x.a, .int .i64 x.b, .bool x.yes, .int .i64 x.chance.least, .int .i64 x.chance.most, .int .i64 x.chance.all] ∧ w'.cell? ⟨hb, o + 2, none⟩ = some (.slice Am i cm) else True := ⟨_, rfl⟩
      have hS0 : ∀ w', S 0 w' ↔ (Blk w' xb 31 #[.int .i64 x.kind, .int .i64 x.tick, .bool x.drill, .int .i64 x.a, .int .i64 x.b, .bool x.yes, .int .i64 x.chance.least, .int .i64 x.chance.most, .int .i64 x.chance.all] ∧ w'.cell? ⟨hb, o + 2, none⟩ = some (.slice Am i cm)) := fun w' => by rw [hS]; exact Iff.rfl
      have hS1 : ∀ w', S 1 w' ↔ (True) := fun w' => by rw [hS]; exact Iff.rfl
      clear hS
      have cx := fun (q : Ev (S 0)) i => ((hS0 _).1 q.h).1.cell i
      have cg := fun (q : Ev (S 0)) => ((hS0 _).1 q.h).2
      have hSB : B ≤ wr.drew.heap.size := by have := T.p.low; have := T.p.lt; omega
      have hevT := ev_true
      refine wp_region_ord S [(0, 0), (1, 0), (2, 0), (3, 0), (4, 1), (5, 0), (6, 1), (7, 0), (8, 1), (9, 0), (10, 1), (11, 0), (12, 2), (13, 2), (14, 0), (15, 0), (16, 3)] [16] (by kernel_rfl) (by kernel_rfl) ((hS0 _).2 ⟨T.x.blk, hcs _ T.p.blk⟩) ?_
      intro _hev
      iterate 12 (first | (refine wpOrd_v rfl rfl ?_; intro K hK; go_big_quiet_op; go_big_quiet_on) | (refine wpOrd_q rfl rfl ?_; intro K hK; go_big_quiet_op; go_big_quiet_on) | refine wpOrd_s (by decide) rfl rfl ?_)
      refine wpOrd_l rfl rfl ?_; intro K hK
      go_step
      have X := Blk.new wr.drew 76 (encMot (.slice none 0 0) (newM x)).toArray
      have KX := Kp.new wr.drew (.cells (encMot (.slice none 0 0) (newM x)).toArray 76)
      rw [show (World.alloc wr (.cells #[.int .i64 x.a, .int .i64 x.b, .int .i64 x.tick, .int .i64 1, .int .i64 0, .int .i64 0, .slice none 0 0, .int .i64 (-1)] 76)).drew = wr.drew.alloc (.cells (encMot (.slice none 0 0) (newM x)).toArray 76) from rfl]
      obtain ⟨sb, hsb⟩ : ∃ q, q = wr.heap.size := ⟨_, rfl⟩
      rw [← hsb]
      replace X : Blk (wr.drew.alloc (.cells (encMot (.slice none 0 0) (newM x)).toArray 76)) sb _ _ := hsb ▸ X
      generalize wr.drew.alloc (.cells (encMot (.slice none 0 0) (newM x)).toArray 76) = w7 at X KX ⊢
      replace hsb := Lib.hid hsb
      replace T := T.kpN KX
      replace own := own.kpN KX
      replace hSB := Nat.le_trans hSB KX.size
      clear KX
      refine hK _ _ ((hS0 _).2 ⟨T.x.blk, hcs _ T.p.blk⟩) ?_
      clear hK K
      have own2 := own
      unfold Own at own2
      rw [hxl.out] at own2
      refine wpOrd_l rfl rfl ?_; intro K hK
      refine wp_append_own_at (.tmp 83) (.tmp 91) 41 (by rfl) B 76 i0 _ 8 80 Try.underlying41 hi0 hz0 hz1 hz2 (by rfl) (by omega) (.slice Am i cm) i (xs.flatMap encVM) (by rfl) own2 ⟨sb, 0, none⟩ 1 1 (encMot (.slice none 0 0) (newM x)) (by rfl) (by rfl) (fun j u hj => by rw [Addr.add_lit, Nat.zero_add, X.cell]; simpa using hj) (one_mot _) (maxLen_of (by omega)) (by omega) hSB ?_
      intro u8 w8 hown8 gu au
      obtain ⟨g8, cap8, rfl⟩ := ownsRow_succ hown8
      have st := T.p.motionStep (d := x.drill) (newM x) rfl _ (by rw [em2.out]; exact gu) (by rw [← hxs.out]; unfold Own; rw [List.length_append, List.flatMap_append, hxl.out]; simpa [encVM] using hown8)
        (by rw [em2.out]; rcases au with h1 | h1
            · exact .inl h1
            · right; intro b hb'; rw [h1] at hb'; injection hb' with hb'; omega)
      rw [← ho.out] at st
      have T3 := T.step st
      have B8 := (gu.block hb T.p.lt (fun e => T.p.rows.hb (.motions x.drill) hb (by rw [rowOf_v, em2.out]; exact e.symm) rfl)).trans T.p.blk
      have X8 := (gu.block xb T.x.blk.lt (fun e => T.x.apart.2 (.motions x.drill) (by rw [em2.out]; exact e.symm))).trans T.x.blk
      have c8 := hcs _ B8
      have f8 := Blk.frozen B8 (o + 2)
      refine hK _ _ ((hS0 _).2 ⟨X8, c8⟩) ?_
      try simp only [Act.put, List.setIfInBounds_toArray, List.set_cons_zero, List.set_cons_succ]
      clear hK K
      iterate 2 (first | (refine wpOrd_v rfl rfl ?_; intro K hK; go_big_quiet_op; go_big_quiet_on) | (refine wpOrd_q rfl rfl ?_; intro K hK; go_big_quiet_op; go_big_quiet_on) | refine wpOrd_s (by decide) rfl rfl ?_)
      refine wpOrd_a rfl rfl ?_; intro K hK
      go_step
      refine hK _ _ ((hS1 _).2 trivial) ?_
      clear hK K
      change wpOrd _ _ _ _ _ 1 _ _
      refine wpOrd_nil ?_
      clear hevT _hev
      clear hS0 hS1 S cx cg
      have fin := Lib.hid (RDPost.fin T3 hE4.out)
      go_wp2
      go_ret
      exact fin.out
end Go.Proofs.Ytogpgnljomchcaa
