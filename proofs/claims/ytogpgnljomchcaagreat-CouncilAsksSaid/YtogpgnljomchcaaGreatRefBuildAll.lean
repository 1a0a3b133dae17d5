/- do and Build: the reference. Build: the reference. -/
import Derived.Test.YtogpgnljomchcaaGreatRefIj
import Derived.Test.YtogpgnljomchcaaGreatSe
import Derived.Deep.CutBlock
namespace Go.Proofs.YtogpgnljomchcaaGreat
open Go.RowKit

theorem RH.plainStep {B hb : Nat} {w : World} {v : Ky → Value} {h h' : House} (p : RH B hb w v h) (o : Nat) (u : Value) (hr : rowOf h' v = rowOf h v) (hc : (rCells v h).setIfInBounds o u = rCells v h') :
    RH B hb (w.setCell ⟨hb, o, none⟩ u) v h' ∧ Fr hb v v w (w.setCell ⟨hb, o, none⟩ u) := by
  refine ⟨⟨by rw [hr]; exact p.rows.kp (setH_kp w hb _ u), p.low, ?_⟩, (Fr.refl hb v w).setH o u⟩
  rw [← hc]
  exact p.blk.set_ o u
theorem RH.itemsStep {B hb : Nat} {w : World} {v : Ky → Value} {h : House} (p : RH B hb w v h) (d : Bool) (n : Int) :
    RH B hb (w.setCell ⟨hb, rD d, none⟩ (.int .i64 n)) v (h.put d { h.led d with items := n }) ∧ Fr hb v v w (w.setCell ⟨hb, rD d, none⟩ (.int .i64 n)) :=
  p.plainStep (rD d) (.int .i64 n) (by funext k; cases d <;> rcases k with ⟨(_ | _)⟩ | ⟨(_ | _)⟩ | ⟨(_ | _)⟩ | ⟨(_ | _), _⟩ <;> rfl) (by cases d <;> simp [rCells, House.put, House.led, rD])
theorem RH.tickStep {B hb : Nat} {w : World} {v : Ky → Value} {h : House} (p : RH B hb w v h) (t : Int) :
    RH B hb (w.setCell ⟨hb, 0, none⟩ (.int .i64 t)) v { h with tick := t } ∧ Fr hb v v w (w.setCell ⟨hb, 0, none⟩ (.int .i64 t)) :=
  p.plainStep 0 (.int .i64 t) (by funext k; rcases k with ⟨(_ | _)⟩ | ⟨(_ | _)⟩ | ⟨(_ | _)⟩ | ⟨(_ | _), _⟩ <;> rfl) (by simp [rCells])
def RDoPost (B hb : Nat) (v : Ky → Value) (h : House) (E : Int) (H : House) (w : World) (e : Ending) (w' : World) : Prop :=
  e = .returned (.int .i64 E) ∧ ∃ v', RH B hb w' v' (if E = 0 then H else h) ∧ Fr hb v v' w w'
theorem RDoPost.err {B hb cb xb : Nat} {V : CV} {c : Council} {v v' : Ky → Value} {h H : House} {x : CItem} {E : Int} {w w' : World} {n : Int} (s : GS B hb cb xb V c v v' h x w w') (e0 : n = E) (e1 : E ≠ 0) : RDoPost B hb v h E H w (.returned (.int .i64 n)) w' :=
  ⟨by rw [e0], v', by rw [if_neg e1]; exact s.p, s.f⟩
def RAtOwn (B hb cb xb : Nat) (V : CV) (c : Council) (v : Ky → Value) (h : House) (x : CItem) (w : World) (v7 v8 : Value) (wx : World) : Prop :=
  v7 = .pointer (some ⟨hb, rD x.drill, none⟩) ∧ v8 = .pointer (some ⟨hb, rD (!x.drill), none⟩) ∧ GS B hb cb xb V c v v h x w wx
def RAtDeed (B hb cb xb : Nat) (V : CV) (c : Council) (v : Ky → Value) (h : House) (x : CItem) (E : Int) (D : Ledger) (w : World) (v9 : Value) (wx : World) : Prop :=
  v9 = .int .i64 E ∧ ∃ v', GS B hb cb xb V c v v' (if E = 0 then h.put x.drill D else h) x w wx
set_option maxRecDepth 20000 in
set_option maxHeartbeats 8000000 in
theorem ref_do_any (B hb n : Nat) (V : CV) (c : Council) (v : Ky → Value) (h : House) (x : CItem) (w : World) (p : RH B hb w v h) (hC : CAt B w V c) (hc : CouncilOk c) (hk : HouseOk c n h) (hn : n ≤ 2000) :
    Calls Tryz.prog 64 #[.agg #[.slice V.am c.members.length V.cm, .slice V.al c.laws.length V.cl, .slice V.av c.levels.length V.cv], .pointer (some ⟨hb, 0, none⟩), .agg #[.int .i64 x.kind, .int .i64 x.tick, .bool x.drill, .int .i64 x.a, .int .i64 x.b, .bool x.yes, .int .i64 x.chance.least, .int .i64 x.chance.most, .int .i64 x.chance.all]] w (RDoPost B hb v h (doE c h x) (doH c h x) w) := by
  have S := GS.start p hC x
  have hhw : hb < w.heap.size := p.lt
  have hBw : B ≤ w.heap.size := by have := p.low; omega
  obtain ⟨cb, hcb⟩ : ∃ q, q = w.heap.size := ⟨_, rfl⟩
  obtain ⟨xb, hxb⟩ : ∃ q, q = w.heap.size + 1 := ⟨_, rfl⟩
  obtain ⟨E, hE⟩ : ∃ q, q = doE c h x := ⟨_, rfl⟩
  rw [← hE]
  replace hE := Lib.hid hE
  replace hc := Lib.hid hc
  replace hk := Lib.hid hk
  go_enter Tryz.func64, Tryz.ntmps64
  go_upto_region 1 with (fail)
  rw [← hxb, ← hcb] at S
  rw [← hxb, ← hcb]
  have hcx : cb ≠ xb := by omega
  have hhc : hb ≠ cb := by omega
  have hhx : hb ≠ xb := by omega
  replace hxb := Lib.hid hxb
  replace hcb := Lib.hid hcb
  generalize (w.alloc (.cells #[.slice V.am c.members.length V.cm, .slice V.al c.laws.length V.cl, .slice V.av c.levels.length V.cv] 28)).alloc (.cells #[.int .i64 x.kind, .int .i64 x.tick, .bool x.drill, .int .i64 x.a, .int .i64 x.b, .bool x.yes, .int .i64 x.chance.least, .int .i64 x.chance.most, .int .i64 x.chance.all] 36) = w1 at S ⊢
  have cx := fun i => S.x.blk.cell i
  go_wp2_with fail
  refine (bolideref09_between_any _ _ _ _).mono ?_
  rintro e w2 ⟨rfl, k2⟩
  replace S := S.kpN k2
  clear k2 cx
  have cx := fun i => S.x.blk.cell i
  cases hb1 : bt x.tick 0 1073741824
  · have e1 := Lib.hid (show 2 = E by rw [hE.out]; unfold doE; rw [if_pos (by have := bt_false hb1; omega)])
    go_wp2
    go_ret
    exact RDoPost.err S e1.out (by rw [← e1.out]; decide)
  replace hb1 := Lib.hid hb1
  have h1 : 0 ≤ x.tick ∧ x.tick ≤ 1073741824 := bt_true hb1.out
  replace hE := Lib.hid (show E = if x.tick < h.tick then 11 else deedE c (h.led x.drill) (h.led (!x.drill)) x by rw [hE.out]; unfold doE; rw [if_neg (by omega)])
  have c0 : w2.cell? ⟨hb, 0, none⟩ = some (.int .i64 h.tick) := S.p.blk.cell 0
  by_cases h2 : x.tick < h.tick
  · have e1 := Lib.hid (show 11 = E by rw [hE.out, if_pos h2])
    go_wp2_with fail
    go_quiet (fail)
    go_wp2
    go_ret
    exact RDoPost.err (S.kpN ((Kp.refl _ _ _).drewN _)) e1.out (by rw [← e1.out]; decide)
  replace hE := Lib.hid (hE.out.trans (if_neg h2))
  go_wp2_with fail
  go_quiet (fail)
  replace S := S.kpN ((Kp.refl _ _ _).drewN nq)
  clear cx c0
  generalize w2.drewN nq = w3 at S ⊢
  clear nq
  go_wp2_with fail
  go_quiet (fail)
  replace S := S.kpN ((Kp.refl _ _ _).drewN nq)
  generalize w3.drewN nq = w4 at S ⊢
  clear nq
  obtain ⟨yy, hyy⟩ : ∃ q, q = x.drill := ⟨_, rfl⟩
  have cy : w4.cell? ⟨xb, 2, none⟩ = some (.bool yy) := by rw [hyy]; exact S.x.blk.cell 2
  replace hyy := Lib.hid hyy
  go_upto_if 28 with (fail)
  have hT : yy = true → x.drill = true := fun e => hyy.out ▸ e
  have hF : yy = false → x.drill = false := fun e => hyy.out ▸ e
  replace hT := Lib.hid hT
  replace hF := Lib.hid hF
  clear cy hyy
  go_cut [7, 8] (fun v7 v8 wx => RAtOwn B hb cb xb V c v h x w v7 v8 wx)
  case first =>
    cases yy
    · have e : x.drill = false := by first | exact hF.out rfl | exact hF.out trivial
      replace e := Lib.hid e
      clear hT hF
      replace S := Lib.hid S
      go_wp2_with fail
      go_meet
      case rel => exact ⟨by rw [e.out]; rfl, by rw [e.out]; rfl, S.out⟩
    · have e : x.drill = true := by first | exact hT.out rfl | exact hT.out trivial
      replace e := Lib.hid e
      clear hT hF
      replace S := Lib.hid S
      go_wp2_with fail
      go_meet
      case rel => exact ⟨by rw [e.out]; rfl, by rw [e.out]; rfl, S.out⟩
  case rest =>
  clear S hT hF
  rename World => w5
  obtain ⟨rfl, rfl, S⟩ := hcut
  have cc := fun i => S.cl.blk.cell i
  have stp : ∀ W e L, RDPost B hb v h x E L w5 e W → e = .returned (.int .i64 E) ∧ ∃ v', GS B hb cb xb V c v v' (if E = 0 then h.put x.drill L else h) x w W := fun W e L q => by
    obtain ⟨a, v', b, f⟩ := q
    exact ⟨a, v', S.step ⟨b, f⟩⟩
  obtain ⟨D, hD⟩ : ∃ q, q = deedL c (h.led x.drill) x := ⟨_, rfl⟩
  obtain ⟨kk, hkk⟩ : ∃ q, q = x.kind := ⟨_, rfl⟩
  have dF : kk = 1 → Calls Tryz.prog 74 #[.agg #[.slice V.am c.members.length V.cm, .slice V.al c.laws.length V.cl, .slice V.av c.levels.length V.cv], .pointer (some ⟨hb, rD x.drill, none⟩), .agg #[.int .i64 x.kind, .int .i64 x.tick, .bool x.drill, .int .i64 x.a, .int .i64 x.b, .bool x.yes, .int .i64 x.chance.least, .int .i64 x.chance.most, .int .i64 x.chance.all]] w5 (RDPost B hb v h x E D w5) := fun e0 => by
    have e : x.kind = 1 := hkk ▸ e0
    rw [hE.out, hD]; unfold deedE deedL; rw [if_pos e, if_pos e]
    exact ref_fact_any B hb n V c v h x w5 S.p S.ca hc.out hk.out (by omega)
  have dM : kk = 2 → Calls Tryz.prog 75 #[.agg #[.slice V.am c.members.length V.cm, .slice V.al c.laws.length V.cl, .slice V.av c.levels.length V.cv], .pointer (some ⟨hb, rD x.drill, none⟩), .agg #[.int .i64 x.kind, .int .i64 x.tick, .bool x.drill, .int .i64 x.a, .int .i64 x.b, .bool x.yes, .int .i64 x.chance.least, .int .i64 x.chance.most, .int .i64 x.chance.all]] w5 (RDPost B hb v h x E D w5) := fun e0 => by
    have e : x.kind = 2 := hkk ▸ e0
    rw [hE.out, hD]; unfold deedE deedL; rw [if_neg (by omega), if_pos e, if_neg (by omega), if_pos e]
    exact ref_move_any B hb n V c v h x w5 S.p S.ca hk.out (by omega)
  have dV : kk = 3 → Calls Tryz.prog 76 #[.agg #[.slice V.am c.members.length V.cm, .slice V.al c.laws.length V.cl, .slice V.av c.levels.length V.cv], .pointer (some ⟨hb, rD x.drill, none⟩), .pointer (some ⟨hb, rD (!x.drill), none⟩), .agg #[.int .i64 x.kind, .int .i64 x.tick, .bool x.drill, .int .i64 x.a, .int .i64 x.b, .bool x.yes, .int .i64 x.chance.least, .int .i64 x.chance.most, .int .i64 x.chance.all]] w5 (RDPost B hb v h x E D w5) := fun e0 => by
    have e : x.kind = 3 := hkk ▸ e0
    rw [hE.out, hD]; unfold deedE deedL; rw [if_neg (by omega), if_neg (by omega), if_pos e, if_neg (by omega), if_neg (by omega), if_pos e]
    exact ref_vote_any B hb n V c v h x w5 S.p S.ca hc.out hk.out (by omega) h1.1 h1.2
  have dC : kk = 4 → Calls Tryz.prog 77 #[.agg #[.slice V.am c.members.length V.cm, .slice V.al c.laws.length V.cl, .slice V.av c.levels.length V.cv], .pointer (some ⟨hb, rD x.drill, none⟩), .pointer (some ⟨hb, rD (!x.drill), none⟩), .agg #[.int .i64 x.kind, .int .i64 x.tick, .bool x.drill, .int .i64 x.a, .int .i64 x.b, .bool x.yes, .int .i64 x.chance.least, .int .i64 x.chance.most, .int .i64 x.chance.all]] w5 (RDPost B hb v h x E D w5) := fun e0 => by
    have e : x.kind = 4 := hkk ▸ e0
    rw [hE.out, hD]; unfold deedE deedL; rw [if_neg (by omega), if_neg (by omega), if_neg (by omega), if_pos e, if_neg (by omega), if_neg (by omega), if_neg (by omega)]
    exact ref_closes_any B hb n V c v h x w5 S.p S.ca hc.out hk.out hn
  have d0 : kk ≠ 1 → kk ≠ 2 → kk ≠ 3 → kk ≠ 4 → 4 = E := fun a b c' d => by
    rw [hkk] at a b c' d
    rw [hE.out]; unfold deedE; rw [if_neg a, if_neg b, if_neg c', if_neg d]
  have d4 : 4 = E → GS B hb cb xb V c v v (if E = 0 then h.put x.drill D else h) x w w5 := fun e => by rw [if_neg (by omega)]; exact S
  have ck : w5.cell? ⟨xb, 0, none⟩ = some (.int .i64 kk) := by rw [hkk]; exact S.x.blk.cell 0
  replace stp := Lib.hid stp
  replace hD := Lib.hid hD
  replace dF := Lib.hid dF
  replace dM := Lib.hid dM
  replace dV := Lib.hid dV
  replace dC := Lib.hid dC
  replace d0 := Lib.hid d0
  replace d4 := Lib.hid d4
  replace hkk := Lib.hid hkk
  go_upto_block 0 with (fail)
  clear ck
  go_cut [9] (fun v9 wx => RAtDeed B hb cb xb V c v h x E D w v9 wx)
  case first =>
    have cx0 : w5.cell? ⟨xb, 0, none⟩ = some (.int .i64 x.kind) := S.x.blk.cell 0
    have cx1 : w5.cell? ⟨xb, 1, none⟩ = some (.int .i64 x.tick) := S.x.blk.cell 1
    have cx2 : w5.cell? ⟨xb, 2, none⟩ = some (.bool x.drill) := S.x.blk.cell 2
    have cx3 : w5.cell? ⟨xb, 3, none⟩ = some (.int .i64 x.a) := S.x.blk.cell 3
    have cx4 : w5.cell? ⟨xb, 4, none⟩ = some (.int .i64 x.b) := S.x.blk.cell 4
    have cx5 : w5.cell? ⟨xb, 5, none⟩ = some (.bool x.yes) := S.x.blk.cell 5
    have cx6 : w5.cell? ⟨xb, 6, none⟩ = some (.int .i64 x.chance.least) := S.x.blk.cell 6
    have cx7 : w5.cell? ⟨xb, 7, none⟩ = some (.int .i64 x.chance.most) := S.x.blk.cell 7
    have cx8 : w5.cell? ⟨xb, 8, none⟩ = some (.int .i64 x.chance.all) := S.x.blk.cell 8
    clear S
    by_cases k1 : kk = 1
    · subst k1
      go_wp2_with fail
      refine (dF.out (by first | rfl | trivial)).mono ?_
      rintro e w6 q
      obtain ⟨rfl, v6, S6⟩ := stp.out _ _ _ q
      replace S6 := Lib.hid S6
      clear q
      go_wp2_with fail
      go_meet
      case rel => exact ⟨rfl, v6, S6.out⟩
    by_cases k2 : kk = 2
    · subst k2
      go_wp2_with fail
      refine (dM.out (by first | rfl | trivial)).mono ?_
      rintro e w6 q
      obtain ⟨rfl, v6, S6⟩ := stp.out _ _ _ q
      replace S6 := Lib.hid S6
      clear q
      go_wp2_with fail
      go_meet
      case rel => exact ⟨rfl, v6, S6.out⟩
    by_cases k3 : kk = 3
    · subst k3
      go_wp2_with fail
      refine (dV.out (by first | rfl | trivial)).mono ?_
      rintro e w6 q
      obtain ⟨rfl, v6, S6⟩ := stp.out _ _ _ q
      replace S6 := Lib.hid S6
      clear q
      go_wp2_with fail
      go_meet
      case rel => exact ⟨rfl, v6, S6.out⟩
    by_cases k4 : kk = 4
    · subst k4
      go_wp2_with fail
      refine (dC.out (by first | rfl | trivial)).mono ?_
      rintro e w6 q
      obtain ⟨rfl, v6, S6⟩ := stp.out _ _ _ q
      replace S6 := Lib.hid S6
      clear q
      go_wp2_with fail
      go_meet
      case rel => exact ⟨rfl, v6, S6.out⟩
    have e4 := d0.out k1 k2 k3 k4
    have S6 := Lib.hid (d4.out e4)
    replace e4 := Lib.hid e4
    clear d4 d0 dF dM dV dC stp
    go_wp2_with fail
    go_meet
    case rel => exact ⟨by rw [e4.out], v, S6.out⟩
  case rest =>
  clear S cc dF dM dV dC d0 d4 stp hkk
  rename World => w6
  obtain ⟨rfl, v6, S⟩ := hcut
  by_cases q0 : E = 0
  case neg =>
    rw [if_neg q0] at S
    have q1 : (E == 0) = false := by simpa using q0
    have fin := Lib.hid (RDoPost.err (n := E) (H := doH c h x) S rfl q0)
    clear S
    go_wp2
    go_ret
    exact fin.out
  rw [if_pos q0] at S
  have hii := (hk.out.led x.drill).itn
  have hi0 := (hk.out.led x.drill).it0
  have hDi : D.items = (h.led x.drill).items := by rw [hD.out]; exact deedL_items _ _ _
  have cx := fun i => S.x.blk.cell i
  have c0 : w6.cell? ⟨hb, 0, none⟩ = some (.int .i64 (h.put x.drill D).tick) := S.p.blk.cell 0
  have ci : w6.cell? ⟨hb, rD x.drill, none⟩ = some (.int .i64 (h.led x.drill).items) := by rw [← hDi]; exact (S.p.blk.cell _).trans ((rCells_items _ _ x.drill).trans (by rw [put_led]))
  have fh := fun i => S.p.blk.frozen i
  have st1 := S.p.tickStep x.tick
  have st2 := st1.1.itemsStep x.drill ((h.led x.drill).items + 1)
  have e9 : ({ h.put x.drill D with tick := x.tick } : House).put x.drill { ({ h.put x.drill D with tick := x.tick } : House).led x.drill with items := (h.led x.drill).items + 1 } = doH c h x := by
    unfold doH oneMore
    rw [← hD.out, ← hDi]
    cases x.drill <;> rfl
  rw [e9] at st2
  have F9 := S.f.trans (st1.2.trans st2.2)
  have ho0 : 0 ≠ rD x.drill := by unfold rD; split <;> omega
  have hwr : wrap64 ((h.led x.drill).items + 1) = (h.led x.drill).items + 1 := IntWalk.wrap64_in _ (by omega)
  have fin : RDoPost B hb v h E (doH c h x) w (.returned (.int .i64 0)) ((w6.setCell ⟨hb, 0, none⟩ (.int .i64 x.tick)).setCell ⟨hb, rD x.drill, none⟩ (.int .i64 ((h.led x.drill).items + 1))) :=
    ⟨by rw [q0], v6, by rw [if_pos q0]; exact st2.1, F9⟩
  replace fin := Lib.hid fin
  obtain ⟨o, ho⟩ : ∃ q, q = rD x.drill := ⟨_, rfl⟩
  rw [← ho] at ci ho0 fin
  rw [← ho]
  clear st1 st2 F9 hii hi0 e9 S hDi
  replace ho := Lib.hid ho
  subst q0
  go_wp2
  go_ret
  exact fin.out
end Go.Proofs.YtogpgnljomchcaaGreat
namespace Go.Proofs.YtogpgnljomchcaaGreat
open Go.RowKit

/-- in the course of the reference's Build -/
structure RBS (B hb cb rb : Nat) (V : CV) (c : Council) (v : Ky → Value) (h : House) (w w' : World) : Prop where
  p : RH B hb w' v h
  ca : CAt B w' V c
  cl : Lcl hb v w' cb 28 #[.slice V.am c.members.length V.cm, .slice V.al c.laws.length V.cl, .slice V.av c.levels.length V.cv]
  r : Lcl hb v w' rb 43 #[.int .i64 0, .int .i64 0, .slice none 0 0, .slice none 0 0, .slice none 0 0, .int .i64 0, .slice none 0 0, .slice none 0 0, .slice none 0 0]
  k : Kp w.heap.size none w w'
  b : B = w.heap.size
section
variable {B hb cb rb : Nat} {V : CV} {c : Council} {v v' : Ky → Value} {h h' : House} {w w1 w2 : World}
theorem RBS.kpN (s : RBS B hb cb rb V c v h w w1) (k : Kp w1.heap.size none w1 w2) : RBS B hb cb rb V c v h w w2 := ⟨s.p.kpN k, s.ca.kpN k, s.cl.kpN k, s.r.kpN k, s.k.thenN k (Nat.le_refl _), s.b⟩
theorem RBS.step (s : RBS B hb cb rb V c v h w w1) (q : RH B hb w2 v' h') (f : Fr hb v v' w1 w2) : RBS B hb cb rb V c v' h' w w2 :=
  ⟨q, s.ca.kp (s.p.kp f), s.cl.fr f, s.r.fr f, s.k.trans (by have := s.p.kp f; rw [← s.b]; exact this), s.b⟩
theorem rtold_fin (s : RBS B hb cb rb V c v h w w1) (hr : w.heap.size ≤ rb) (c0 c1 c2 c3 c4 c5 c6 c7 c8 : Value) :
    RowsAt w.heap.size hb (setR0 w1 rb c0 c1 c2 c3 c4 c5 c6 c7 c8) (rowOf h v) ∧ Kp w.heap.size none w (setR0 w1 rb c0 c1 c2 c3 c4 c5 c6 c7 c8) ∧ Blk (setR0 w1 rb c0 c1 c2 c3 c4 c5 c6 c7 c8) rb 43 #[c0, c1, c2, c3, c4, c5, c6, c7, c8] :=
  ⟨by rw [← s.b]; exact s.p.rows.other (setR0_grown _ _ _ _ _ _ _ _ _ _ _) s.r.apart, setR0_kp s.k hr _ _ _ _ _ _ _ _ _, Blk.setR0 s.r.blk _ _ _ _ _ _ _ _ _⟩
theorem rCells_form (p : RH B hb w v h) : ∃ A0 l0 q0 A1 l1 q1 A2 l2 q2 A3 l3 q3 A4 l4 q4 A5 l5 q5, rCells v h = #[.int .i64 h.tick, .int .i64 h.real.items, .slice A0 l0 q0, .slice A1 l1 q1, .slice A2 l2 q2, .int .i64 h.drill.items, .slice A3 l3 q3, .slice A4 l4 q4, .slice A5 l5 q5] := by
  have sl := slice_of p.rows
  obtain ⟨A0, l0, q0, e0⟩ := sl (.facts false)
  obtain ⟨A1, l1, q1, e1⟩ := sl (.motions false)
  obtain ⟨A2, l2, q2, e2⟩ := sl (.sent false)
  obtain ⟨A3, l3, q3, e3⟩ := sl (.facts true)
  obtain ⟨A4, l4, q4, e4⟩ := sl (.motions true)
  obtain ⟨A5, l5, q5, e5⟩ := sl (.sent true)
  exact ⟨A0, l0, q0, A1, l1, q1, A2, l2, q2, A3, l3, q3, A4, l4, q4, A5, l5, q5, by rw [rCells_eq, e0, e1, e2, e3, e4, e5]⟩
end
def RBuildAt (R : House × Int × Int) (cb rb hb : Nat) (V : CV) (c : Council) (l : List CItem) (w : World) (n : Value) (wr : World) : Prop :=
  ∃ (i : Nat) (v : Ky → Value) (h : House), n = .int .i64 i ∧ i ≤ l.length ∧ runItems c i h (l.drop i) = R ∧ HouseOk c i h ∧ RBS w.heap.size hb cb rb V c v h w wr
set_option maxRecDepth 20000 in
set_option maxHeartbeats 4000000 in
theorem ref_build_any (V : CV) (c : Council) (A : Option Addr) (cap : Nat) (l : List CItem) (w : World) (hc : CAt w.heap.size w V c) (hr : Rd none w 9 encItem A l.length l) (hl : l.length ≤ 1000000) :
    Calls Tryz.prog 46 #[.agg #[.slice V.am c.members.length V.cm, .slice V.al c.laws.length V.cl, .slice V.av c.levels.length V.cv], .slice A l.length cap] w (BuildPost c l w) := by
  obtain ⟨cb, hcb⟩ : ∃ q, q = w.heap.size := ⟨_, rfl⟩
  have C0 := (Blk.new w 28 #[.slice V.am c.members.length V.cm, .slice V.al c.laws.length V.cl, .slice V.av c.levels.length V.cv]).alloc (.cells #[.int .i64 0, .int .i64 0, .slice none 0 0, .slice none 0 0, .slice none 0 0, .int .i64 0, .slice none 0 0, .slice none 0 0, .slice none 0 0] 43)
  have R0 := Blk.newAt (w.alloc (.cells #[.slice V.am c.members.length V.cm, .slice V.al c.laws.length V.cl, .slice V.av c.levels.length V.cv] 28)) 43 #[.int .i64 0, .int .i64 0, .slice none 0 0, .slice none 0 0, .slice none 0 0, .int .i64 0, .slice none 0 0, .slice none 0 0, .slice none 0 0] (n := w.heap.size + 1) (by simp)
  have K0 := Kp.new2 w (.cells #[.slice V.am c.members.length V.cm, .slice V.al c.laws.length V.cl, .slice V.av c.levels.length V.cv] 28) (.cells #[.int .i64 0, .int .i64 0, .slice none 0 0, .slice none 0 0, .slice none 0 0, .int .i64 0, .slice none 0 0, .slice none 0 0, .slice none 0 0] 43)
  have hcw := hc.kpN K0
  go_enter Tryz.func46, Tryz.ntmps46
  go_upto_region 1 with (fail)
  rw [← hcb] at C0 R0 ⊢
  have hcbw : w.heap.size ≤ cb := by omega
  replace hcb := Lib.hid hcb
  obtain ⟨rb, hrb⟩ : ∃ q, q = cb + 1 := ⟨_, rfl⟩
  have hrw : w.heap.size ≤ rb := by omega
  have hne : cb ≠ rb := by omega
  rw [← hrb] at R0 ⊢
  replace hrb := Lib.hid hrb
  generalize (w.alloc (.cells #[.slice V.am c.members.length V.cm, .slice V.al c.laws.length V.cl, .slice V.av c.levels.length V.cv] 28)).alloc (.cells #[.int .i64 0, .int .i64 0, .slice none 0 0, .slice none 0 0, .slice none 0 0, .int .i64 0, .slice none 0 0, .slice none 0 0, .slice none 0 0] 43) = w1 at C0 R0 K0 hcw ⊢
  have cc := fun i => C0.cell i
  go_wp2_with fail
  refine (ref_Check_any _ V c _ hcw).mono ?_
  rintro e w2 ⟨rfl, k2⟩
  replace hcw := hcw.kpN k2
  replace C0 := C0.kpN k2
  replace R0 := R0.kpN k2
  replace K0 := K0.thenN k2 (Nat.le_refl _)
  clear k2 cc
  have cc := fun i => C0.cell i
  have cr := fun i => R0.cell i
  have fr := fun i => R0.frozen i
  by_cases h1 : checkC c = 0
  case neg =>
    have hb1 : buildC c l = (zeroHouse, -1, checkC c) := by unfold buildC; rw [if_pos h1]
    replace hb1 := Lib.hid hb1
    generalize checkC c = ce at h1 hb1 ⊢
    go_wp2_with fail
    have K9 := setR0_kp K0 hrw (.int .i64 0) (.int .i64 0) (.slice none 0 0) (.slice none 0 0) (.slice none 0 0) (.int .i64 0) (.slice none 0 0) (.slice none 0 0) (.slice none 0 0)
    have R9 := Blk.setR0 R0 (.int .i64 0) (.int .i64 0) (.slice none 0 0) (.slice none 0 0) (.slice none 0 0) (.int .i64 0) (.slice none 0 0) (.slice none 0 0) (.slice none 0 0)
    change bodyPost _ _ _ _ _ (setR0 w2 rb (.int .i64 0) (.int .i64 0) (.slice none 0 0) (.slice none 0 0) (.slice none 0 0) (.int .i64 0) (.slice none 0 0) (.slice none 0 0) (.slice none 0 0))
    generalize setR0 w2 rb (.int .i64 0) (.int .i64 0) (.slice none 0 0) (.slice none 0 0) (.slice none 0 0) (.int .i64 0) (.slice none 0 0) (.slice none 0 0) (.slice none 0 0) = w9 at K9 R9 ⊢
    have c9 := fun i => R9.cell i
    exact bodyPost_ret (v := .tuple #[.agg #[.int .i64 0, .int .i64 0, .slice none 0 0, .slice none 0 0, .slice none 0 0, .int .i64 0, .slice none 0 0, .slice none 0 0, .slice none 0 0], .int .i64 (-1), .int .i64 ce]) (by simp [results, Tryz.results46, go_sem, c9]) rfl ⟨nilV, by rw [hb1.out]; rfl, by rw [hb1.out]; exact ⟨0, RowsAt.zero _ _ _⟩, K9⟩
  case pos =>
    have hok := councilOk_of h1
    rw [h1]
    by_cases h2 : 2000 < l.length
    · have hb1 := Lib.hid (show buildC c l = (zeroHouse, -1, 8) by unfold buildC; rw [if_neg (by simpa using h1), if_pos h2])
      have h2' : 2000 < (l.length : Int) := by omega
      go_wp2_with fail
      have K9 := setR0_kp K0 hrw (.int .i64 0) (.int .i64 0) (.slice none 0 0) (.slice none 0 0) (.slice none 0 0) (.int .i64 0) (.slice none 0 0) (.slice none 0 0) (.slice none 0 0)
      have R9 := Blk.setR0 R0 (.int .i64 0) (.int .i64 0) (.slice none 0 0) (.slice none 0 0) (.slice none 0 0) (.int .i64 0) (.slice none 0 0) (.slice none 0 0) (.slice none 0 0)
      change bodyPost _ _ _ _ _ (setR0 w2 rb (.int .i64 0) (.int .i64 0) (.slice none 0 0) (.slice none 0 0) (.slice none 0 0) (.int .i64 0) (.slice none 0 0) (.slice none 0 0) (.slice none 0 0))
      generalize setR0 w2 rb (.int .i64 0) (.int .i64 0) (.slice none 0 0) (.slice none 0 0) (.slice none 0 0) (.int .i64 0) (.slice none 0 0) (.slice none 0 0) (.slice none 0 0) = w9 at K9 R9 ⊢
      have c9 := fun i => R9.cell i
      exact bodyPost_ret (v := .tuple #[.agg #[.int .i64 0, .int .i64 0, .slice none 0 0, .slice none 0 0, .slice none 0 0, .int .i64 0, .slice none 0 0, .slice none 0 0, .slice none 0 0], .int .i64 (-1), .int .i64 8]) (by simp [results, Tryz.results46, go_sem, c9]) rfl ⟨nilV, by rw [hb1.out]; rfl, by rw [hb1.out]; exact ⟨0, RowsAt.zero _ _ _⟩, K9⟩
    have hb1 : buildC c l = runItems c 0 zeroHouse l := by unfold buildC; rw [if_neg (by simpa using h1), if_neg h2]
    have h2' : ¬ 2000 < (l.length : Int) := by omega
    replace hok := Lib.hid hok
    replace h2 := Lib.hid h2
    clear h1
    go_upto_region 7 with (fail)
    have S : RBS w.heap.size w2.heap.size cb rb V c nilV zeroHouse w (w2.alloc (.cells (rCells nilV zeroHouse) 43)) :=
      ⟨⟨RowsAt.zero _ _ _, K0.size, Blk.new _ _ _⟩, hcw.kpN (Kp.new _ _), ⟨C0.kpN (Kp.new _ _), ⟨by have := C0.lt; omega, fun j e => by cases e⟩⟩, ⟨R0.kpN (Kp.new _ _), ⟨by have := R0.lt; omega, fun j e => by cases e⟩⟩, K0.thenN (Kp.new _ _) (Nat.le_refl _), rfl⟩
    change Code.wp _ _ _ _ (w2.alloc (.cells (rCells nilV zeroHouse) 43))
    obtain ⟨hbk, hhb⟩ : ∃ q, q = w2.heap.size := ⟨_, rfl⟩
    rw [← hhb] at S ⊢
    generalize World.alloc w2 (.cells (rCells nilV zeroHouse) 43) = w3 at S ⊢
    clear hhb K0 R0 C0 cc cr fr hcw hc hcb hrb hne hcbw
    replace hb1 := Lib.hid hb1
    replace h2 := Lib.hid (show l.length ≤ 2000 by have := h2.out; omega)
    go_wp2_with fail
    go_loopw [9] (fun n wr => RBuildAt (buildC c l) cb rb hbk V c l w n wr) (fun n _ => l.length - (intOf n).toNat)
    case atStart => exact ⟨0, nilV, zeroHouse, rfl, by omega, by rw [List.drop_zero]; exact hb1.out.symm, zeroHouse_ok c 0, S⟩
    case round =>
      clear S
      obtain ⟨i, v, h, rfl, hi, hj, hk, S⟩ := hrel
      by_cases h7 : i < l.length
      · obtain ⟨b, o, rfl, hb, -, hcc⟩ := hr.at_ (by omega)
        have hcell : ∀ W, Kp w.heap.size none w W → W.cell? ⟨b, o + i * 9, none⟩ = some (.int .i64 l[i].kind) ∧ W.cell? ⟨b, o + i * 9 + 1, none⟩ = some (.int .i64 l[i].tick) ∧ W.cell? ⟨b, o + i * 9 + 2, none⟩ = some (.bool l[i].drill) ∧ W.cell? ⟨b, o + i * 9 + 3, none⟩ = some (.int .i64 l[i].a) ∧ W.cell? ⟨b, o + i * 9 + 4, none⟩ = some (.int .i64 l[i].b) ∧ W.cell? ⟨b, o + i * 9 + 5, none⟩ = some (.bool l[i].yes) ∧ W.cell? ⟨b, o + i * 9 + 6, none⟩ = some (.int .i64 l[i].chance.least) ∧ W.cell? ⟨b, o + i * 9 + 7, none⟩ = some (.int .i64 l[i].chance.most) ∧ W.cell? ⟨b, o + i * 9 + 8, none⟩ = some (.int .i64 l[i].chance.all) := fun W k => by
          have q : ∀ j v, (encItem l[i])[j]? = some v → W.cell? ⟨b, o + (i * 9 + j), none⟩ = some v := fun j v hv => (k.cell b _ hb (by simp)).trans (hcc i h7 j v hv)
          refine ⟨q 0 _ rfl, ?_, ?_, ?_, ?_, ?_, ?_, ?_, ?_⟩ <;> rw [Nat.add_assoc]
          · exact q 1 _ rfl
          · exact q 2 _ rfl
          · exact q 3 _ rfl
          · exact q 4 _ rfl
          · exact q 5 _ rfl
          · exact q 6 _ rfl
          · exact q 7 _ rfl
          · exact q 8 _ rfl
        have hi' : (i : Int) < (l.length : Int) := by omega
        rw [runItems_drop c l i h7] at hj
        clear hcc hi
        generalize l[i] = x at hcell hj
        replace h7 := Lib.hid h7
        replace hj := Lib.hid hj
        replace hk := Lib.hid hk
        replace hr := Lib.hid hr
        go_upto_region 10 with (fail)
        have T := S.kpN (Kp.refl _ _ _).drew
        clear S
        obtain ⟨P, hP⟩ : ∃ P : World → Prop, P = fun W => W.cell? ⟨b, o + i * 9, none⟩ = some (.int .i64 x.kind) ∧ W.cell? ⟨b, o + i * 9 + 1, none⟩ = some (.int .i64 x.tick) ∧ W.cell? ⟨b, o + i * 9 + 2, none⟩ = some (.bool x.drill) ∧ W.cell? ⟨b, o + i * 9 + 3, none⟩ = some (.int .i64 x.a) ∧ W.cell? ⟨b, o + i * 9 + 4, none⟩ = some (.int .i64 x.b) ∧ W.cell? ⟨b, o + i * 9 + 5, none⟩ = some (.bool x.yes) ∧ W.cell? ⟨b, o + i * 9 + 6, none⟩ = some (.int .i64 x.chance.least) ∧ W.cell? ⟨b, o + i * 9 + 7, none⟩ = some (.int .i64 x.chance.most) ∧ W.cell? ⟨b, o + i * 9 + 8, none⟩ = some (.int .i64 x.chance.all) := ⟨_, rfl⟩
        have hPi : ∀ W, Kp w.heap.size none w W → P W := fun W k => by rw [hP]; exact hcell W k
        have hPo : ∀ W, P W → W.cell? ⟨b, o + i * 9, none⟩ = some (.int .i64 x.kind) ∧ W.cell? ⟨b, o + i * 9 + 1, none⟩ = some (.int .i64 x.tick) ∧ W.cell? ⟨b, o + i * 9 + 2, none⟩ = some (.bool x.drill) ∧ W.cell? ⟨b, o + i * 9 + 3, none⟩ = some (.int .i64 x.a) ∧ W.cell? ⟨b, o + i * 9 + 4, none⟩ = some (.int .i64 x.b) ∧ W.cell? ⟨b, o + i * 9 + 5, none⟩ = some (.bool x.yes) ∧ W.cell? ⟨b, o + i * 9 + 6, none⟩ = some (.int .i64 x.chance.least) ∧ W.cell? ⟨b, o + i * 9 + 7, none⟩ = some (.int .i64 x.chance.most) ∧ W.cell? ⟨b, o + i * 9 + 8, none⟩ = some (.int .i64 x.chance.all) := fun W k => by rw [hP] at k; exact k
        replace hPi := Lib.hid hPi
        replace hPo := Lib.hid hPo
        clear hP hcell
        obtain ⟨S, hS⟩ : ∃ S : Nat → World → Prop, S = fun _ w' => Blk w' cb 28 #[.slice V.am c.members.length V.cm, .slice V.al c.laws.length V.cl, .slice V.av c.levels.length V.cv] ∧ P w' := ⟨_, rfl⟩
        have hS0 : ∀ w', S 0 w' ↔ (Blk w' cb 28 #[.slice V.am c.members.length V.cm, .slice V.al c.laws.length V.cl, .slice V.av c.levels.length V.cv] ∧ P w') := fun w' => by rw [hS]
        clear hS
        have cc := fun (q : Ev (S 0)) i => ((hS0 _).1 q.h).1.cell i
        have x0 := fun (q : Ev (S 0)) => (hPo.out _ ((hS0 _).1 q.h).2).1
        have x1 := fun (q : Ev (S 0)) => (hPo.out _ ((hS0 _).1 q.h).2).2.1
        have x2 := fun (q : Ev (S 0)) => (hPo.out _ ((hS0 _).1 q.h).2).2.2.1
        have x3 := fun (q : Ev (S 0)) => (hPo.out _ ((hS0 _).1 q.h).2).2.2.2.1
        have x4 := fun (q : Ev (S 0)) => (hPo.out _ ((hS0 _).1 q.h).2).2.2.2.2.1
        have x5 := fun (q : Ev (S 0)) => (hPo.out _ ((hS0 _).1 q.h).2).2.2.2.2.2.1
        have x6 := fun (q : Ev (S 0)) => (hPo.out _ ((hS0 _).1 q.h).2).2.2.2.2.2.2.1
        have x7 := fun (q : Ev (S 0)) => (hPo.out _ ((hS0 _).1 q.h).2).2.2.2.2.2.2.2.1
        have x8 := fun (q : Ev (S 0)) => (hPo.out _ ((hS0 _).1 q.h).2).2.2.2.2.2.2.2.2
        have hevT := ev_true
        refine wp_region_ord S [(0, 1), (1, 0), (2, 0), (3, 0), (4, 1), (5, 2), (6, 0)] [] (by kernel_rfl) (by kernel_rfl) ((hS0 _).2 ⟨T.cl.blk, hPi.out _ T.k⟩) ?_
        intro _hev
        iterate 5 (first | (refine wpOrd_v rfl rfl ?_; intro K hK; go_big_quiet_op; go_big_quiet_on) | (refine wpOrd_q rfl rfl ?_; intro K hK; go_big_quiet_op; go_big_quiet_on) | refine wpOrd_s (by decide) rfl rfl ?_)
        refine wpOrd_l rfl rfl ?_; intro K hK
        go_step
        refine (ref_do_any w.heap.size hbk i V c v h x _ T.p T.ca hok.out hk.out (by have := h7.out; have := h2.out; omega)).mono ?_
        rintro e w4 ⟨rfl, v2, p4, f4⟩
        have T2 := T.step p4 f4
        refine hK _ _ ((hS0 _).2 ⟨T2.cl.blk, hPi.out _ T2.k⟩) ?_
        clear hK K
        iterate 1 (first | (refine wpOrd_v rfl rfl ?_; intro K hK; go_big_quiet_op; go_big_quiet_on) | (refine wpOrd_q rfl rfl ?_; intro K hK; go_big_quiet_op; go_big_quiet_on) | refine wpOrd_s (by decide) rfl rfl ?_)
        refine wpOrd_nil ?_
        clear hevT _hev
        clear hS0 S cc x0 x1 x2 x3 x4 x5 x6 x7 x8 p4 f4 T hPi hPo
        have dk : doE c h x = 0 → HouseOk c (i + 1) (doH c h x) := fun e => do_ok hok.out hk.out e
        generalize doE c h x = E at T2 hj dk ⊢
        by_cases q0 : E = 0
        · subst q0
          rw [if_pos rfl] at T2
          have hj2 := Lib.hid (show runItems c ((i + 1 : Nat) : Int) (doH c h x) (l.drop (i + 1)) = buildC c l by have := hj.out; rw [if_pos rfl] at this; exact this)
          have hk2 := Lib.hid (dk rfl)
          replace T2 := Lib.hid T2
          clear hj dk
          go_wp2
          go_roundw
          case rel => exact ⟨i + 1, v2, _, rfl, h7.out, hj2.out, hk2.out, T2.out⟩
          case measure => have := h7.out; simp [intOf]; omega
        · have S : RBS w.heap.size hbk cb rb V c v2 h w w4 := by rw [if_neg q0] at T2; exact T2
          have hj2 := Lib.hid (show (h, (i : Int), E) = buildC c l by have := hj.out; rw [if_neg q0] at this; exact this)
          clear hj T2 dk
          have q1 : (E != 0) = true := by simpa using q0
          obtain ⟨A0, l0, q0, A1, l1, q1, A2, l2, q2, A3, l3, q3, A4, l4, q4, A5, l5, q5, ec⟩ := rCells_form S.p
          have ch : ∀ i, w4.cell? ⟨hbk, i, none⟩ = (#[.int .i64 h.tick, .int .i64 h.real.items, .slice A0 l0 q0, .slice A1 l1 q1, .slice A2 l2 q2, .int .i64 h.drill.items, .slice A3 l3 q3, .slice A4 l4 q4, .slice A5 l5 q5] : Array Value)[i]? := fun i => by rw [← ec]; exact S.p.blk.cell i
          have cr := fun i => S.r.blk.cell i
          have fr := fun i => S.r.blk.frozen i
          have hbr : hbk ≠ rb := Ne.symm S.r.apart.1
          replace S := Lib.hid S
          replace ec := Lib.hid ec
          go_wp2_with fail
          replace S := S.out
          replace ec := ec.out
          obtain ⟨hr3, K9, R9⟩ := rtold_fin S hrw (.int .i64 h.tick) (.int .i64 h.real.items) (.slice A0 l0 q0) (.slice A1 l1 q1) (.slice A2 l2 q2) (.int .i64 h.drill.items) (.slice A3 l3 q3) (.slice A4 l4 q4) (.slice A5 l5 q5)
          change bodyPost _ _ _ _ _ (setR0 w4 rb (.int .i64 h.tick) (.int .i64 h.real.items) (.slice A0 l0 q0) (.slice A1 l1 q1) (.slice A2 l2 q2) (.int .i64 h.drill.items) (.slice A3 l3 q3) (.slice A4 l4 q4) (.slice A5 l5 q5))
          generalize setR0 w4 rb (.int .i64 h.tick) (.int .i64 h.real.items) (.slice A0 l0 q0) (.slice A1 l1 q1) (.slice A2 l2 q2) (.int .i64 h.drill.items) (.slice A3 l3 q3) (.slice A4 l4 q4) (.slice A5 l5 q5) = w9 at K9 R9 hr3 ⊢
          have c9 := fun i => R9.cell i
          exact bodyPost_ret (v := .tuple #[.agg #[.int .i64 h.tick, .int .i64 h.real.items, .slice A0 l0 q0, .slice A1 l1 q1, .slice A2 l2 q2, .int .i64 h.drill.items, .slice A3 l3 q3, .slice A4 l4 q4, .slice A5 l5 q5], .int .i64 i, .int .i64 E]) (by simp [results, Tryz.results46, go_sem, c9]) rfl ⟨v2, by rw [← hj2.out, ec], by rw [← hj2.out]; exact ⟨_, hr3⟩, K9⟩
      · have he : i = l.length := by omega
        have hi' : ¬ (i : Int) < (l.length : Int) := by omega
        have hj2 := Lib.hid (show (h, (-1 : Int), (0 : Int)) = buildC c l by rw [he, List.drop_length] at hj; exact hj)
        clear hj hi h7 hk
        rename (Ky → Value) => v2
        obtain ⟨A0, l0, q0, A1, l1, q1, A2, l2, q2, A3, l3, q3, A4, l4, q4, A5, l5, q5, ec⟩ := rCells_form S.p
        have ch : ∀ i, wr.cell? ⟨hbk, i, none⟩ = (#[.int .i64 h.tick, .int .i64 h.real.items, .slice A0 l0 q0, .slice A1 l1 q1, .slice A2 l2 q2, .int .i64 h.drill.items, .slice A3 l3 q3, .slice A4 l4 q4, .slice A5 l5 q5] : Array Value)[i]? := fun i => by rw [← ec]; exact S.p.blk.cell i
        have cr := fun i => S.r.blk.cell i
        have fr := fun i => S.r.blk.frozen i
        have hbr : hbk ≠ rb := Ne.symm S.r.apart.1
        replace S := Lib.hid S
        replace ec := Lib.hid ec
        go_wp2_with fail
        replace S := S.out
        replace ec := ec.out
        obtain ⟨hr3, K9, R9⟩ := rtold_fin S hrw (.int .i64 h.tick) (.int .i64 h.real.items) (.slice A0 l0 q0) (.slice A1 l1 q1) (.slice A2 l2 q2) (.int .i64 h.drill.items) (.slice A3 l3 q3) (.slice A4 l4 q4) (.slice A5 l5 q5)
        change bodyPost _ _ _ _ _ (setR0 wr rb (.int .i64 h.tick) (.int .i64 h.real.items) (.slice A0 l0 q0) (.slice A1 l1 q1) (.slice A2 l2 q2) (.int .i64 h.drill.items) (.slice A3 l3 q3) (.slice A4 l4 q4) (.slice A5 l5 q5))
        generalize setR0 wr rb (.int .i64 h.tick) (.int .i64 h.real.items) (.slice A0 l0 q0) (.slice A1 l1 q1) (.slice A2 l2 q2) (.int .i64 h.drill.items) (.slice A3 l3 q3) (.slice A4 l4 q4) (.slice A5 l5 q5) = w9 at K9 R9 hr3 ⊢
        have c9 := fun i => R9.cell i
        exact bodyPost_ret (v := .tuple #[.agg #[.int .i64 h.tick, .int .i64 h.real.items, .slice A0 l0 q0, .slice A1 l1 q1, .slice A2 l2 q2, .int .i64 h.drill.items, .slice A3 l3 q3, .slice A4 l4 q4, .slice A5 l5 q5], .int .i64 (-1), .int .i64 0]) (by simp [results, Tryz.results46, go_sem, c9]) rfl ⟨v2, by rw [← hj2.out, ec], by rw [← hj2.out]; exact ⟨_, hr3⟩, K9⟩
theorem ref_build_see (V : CV) (c : Council) (A : Option Addr) (cap : Nat) (l : List CItem) (w : World) (hc : CAt w.heap.size w V c) (hr : Rd none w 9 encItem A l.length l) (hl : l.length ≤ 1000000) :
    Calls Tryz.prog 46 #[.agg #[.slice V.am c.members.length V.cm, .slice V.al c.laws.length V.cl, .slice V.av c.levels.length V.cv], .slice A l.length cap] w (SeePost (buildC c l) w) := by
  refine (ref_build_any V c A cap l w hc hr hl).mono ?_
  rintro e w' ⟨v, he, ⟨hb, r⟩, k⟩
  refine ⟨v, hvOf v, rfl, ?_, ⟨hb, r⟩, ⟨r.see (buildC_ok c l) hl false, r.see (buildC_ok c l) hl true⟩, k⟩
  rw [he, rCells_see r (hvOf v) rfl]
end Go.Proofs.YtogpgnljomchcaaGreat
