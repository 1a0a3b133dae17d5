/- do and Build: the reference. -/
import Derived.Test.YtogpgnljomchcaaRj
import Derived.Test.YtogpgnljomchcaaSe
import Derived.Deep.CutBlock
namespace Go.Proofs.Ytogpgnljomchcaa
open Go.RowKit

theorem RH.plainStep {B hb : Nat} {w : World} {v : Ky → Value} {h h' : House} (p : RH B hb w v h) (o : Nat) (u : Value) (hr : rowOf h' v = rowOf h v) (hc : (rCells v h).setIfInBounds o u = rCells v h') :
    RH B hb (w.setCell ⟨hb, o, none⟩ u) v h' ∧ Fr hb v v w (w.setCell ⟨hb, o, none⟩ u) := by
  refine ⟨⟨by rw [hr]; exact p.rows.kp (setH_kp w hb _ u), p.low, ?_⟩, (Fr.refl hb v w).setH o u⟩
  rw [← hc]
  exact p.blk.set_ o u
theorem RH.itemsStep {B hb : Nat} {w : World} {v : Ky → Value} {h : House} (p : RH B hb w v h) (d : Bool) (n : Int) :
    RH B hb (w.setCell ⟨hb, rD d, none⟩ (.int .i64 n)) v (h.put d { h.led d with items := n }) ∧ Fr hb v v w (w.setCell ⟨hb, rD d, none⟩ (.int .i64 n)) :=
  p.plainStep (rD d) (.int .i64 n) (by funext k; cases d <;> rcases k with ⟨(_ | _)⟩ | ⟨(_ | _)⟩ | ⟨(_ | _)⟩ | ⟨(_ | _), _⟩ <;> rfl) (by cases d <;> simp [rCells, House.put, House.led, rD])
theorem RH.tickStep {B hb : Nat} {w : World} {v : Ky → Value} {h : House} (p : RH B hb w v h) (t : Int) :
    RH B hb (w.setCell ⟨hb, 0, none⟩ (.int .i64 t)) v { h with tick := t } ∧ Fr hb v v w (w.setCell ⟨hb, 0, none⟩ (.int .i64 t)) :=
  p.plainStep 0 (.int .i64 t) (by funext k; rcases k with ⟨(_ | _)⟩ | ⟨(_ | _)⟩ | ⟨(_ | _)⟩ | ⟨(_ | _), _⟩ <;> rfl) (by simp [rCells])
def RDoPost (B hb : Nat) (v : Ky → Value) (h : House) (E : Int) (H : House) (w : World) (e : Ending) (w' : World) : Prop :=
  e = .returned (.int .i64 E) ∧ ∃ v', RH B hb w' v' (if E = 0 then H else h) ∧ Fr hb v v' w w'
theorem RDoPost.err {B hb cb xb : Nat} {V : CV} {c : Council} {v v' : Ky → Value} {h H : House} {x : CItem} {E : Int} {w w' : World} {n : Int} (s : GS B hb cb xb V c v v' h x w w') (e0 : n = E) (e1 : E ≠ 0) : RDoPost B hb v h E H w (.returned (.int .i64 n)) w' :=
  ⟨by rw [e0], v', by rw [if_neg e1]; exact s.p, s.f⟩
def RAtOwn (B hb cb xb : Nat) (V : CV) (c : Council) (v : Ky → Value) (h : House) (x : CItem) (w : World) (v7 v8 : Value) (wx : World) : Prop :=
  v7 = .pointer (some ⟨hb, rD x.drill, none⟩) ∧ v8 = .pointer (some ⟨hb, rD (!x.drill), none⟩) ∧ GS B hb cb xb V c v v h x w wx
def RAtDeed (B hb cb xb : Nat) (V : CV) (c : Council) (v : Ky → Value) (h : House) (x : CItem) (E : Int) (D : Ledger) (w : World) (v9 : Value) (wx : World) : Prop :=
  v9 = .int .i64 E ∧ ∃ v', GS B hb cb xb V c v v' (if E = 0 then h.put x.drill D else h) x w wx
set_option maxRecDepth 20000 in
set_option maxHeartbeats 8000000 in
theorem ref_do_any (B hb n : Nat) (V : CV) (c : Council) (v : Ky → Value) (h : House) (x : CItem) (w : World) (p : RH B hb w v h) (hC : CAt B w V c) (hc : CouncilOk c) (hk : HouseOk c n h) (hn : n ≤ 2000) :
    Calls Try.prog 47 #[.agg #[.slice V.am c.members.length V.cm, .slice V.al c.laws.length V.cl, .slice V.av c.levels.length V.cv], .pointer (some ⟨hb, 0, none⟩), .agg #[.int .i64 x.kind, .int .i64 x.tick, .bool x.drill, .int .i64 x.a, .int .i64 x.b, .bool x.yes, .int .i64 x.chance.least, .int .i64 x.chance.most, .int .i64 x.chance.all]] w (RDoPost B hb v h (doE c h x) (doH c h x) w) := by
  have S := GS.start p hC x
  have hhw : hb < w.heap.size := p.lt
  have hBw : B ≤ w.heap.size := by have := p.low; omega
  obtain ⟨cb, hcb⟩ : ∃ q, q = w.heap.size := ⟨_, rfl⟩
  obtain ⟨xb, hxb⟩ : ∃ q, q = w.heap.size + 1 := ⟨_, rfl⟩
  obtain ⟨E, hE⟩ : ∃ q, q = doE c h x := ⟨_, rfl⟩
  rw [← hE]
  replace hE := Lib.hid hE
  replace hc := Lib.hid hc
  replace hk := Lib.hid hk
  go_enter Try.func47, Try.ntmps47
  go_upto_region 1 with (fail)
  rw [← hxb, ← hcb] at S
  rw [← hxb, ← hcb]
  have hcx : cb ≠ xb := by omega
  have hhc : hb ≠ cb := by omega
  have hhx : hb ≠ xb := by omega
  replace hxb := Lib.hid hxb
  replace hcb := Lib.hid hcb
  generalize (w.alloc (.cells #[.slice V.am c.members.length V.cm, .slice V.al c.laws.length V.cl, .slice V.av c.levels.length V.cv] 26)).alloc (.cells #[.int .i64 x.kind, .int .i64 x.tick, .bool x.drill, .int .i64 x.a, .int .i64 x.b, .bool x.yes, .int .i64 x.chance.least, .int .i64 x.chance.most, .int .i64 x.chance.all] 31) = w1 at S ⊢
  have cx := fun i => S.x.blk.cell i
  go_wp2_with fail
  refine (bolideref09_between_any _ _ _ _).mono ?_
  rintro e w2 ⟨rfl, k2⟩
  replace S := S.kpN k2
  clear k2 cx
  have cx := fun i => S.x.blk.cell i
  cases hb1 : bt x.tick 0 1073741824
  · have e1 := Lib.hid (show 2 = E by rw [hE.out]; unfold doE; rw [if_pos (by have := bt_false hb1; omega)])
    go_wp2
    go_ret
    exact RDoPost.err S e1.out (by rw [← e1.out]; decide)
  replace hb1 := Lib.hid hb1
  have h1 : 0 ≤ x.tick ∧ x.tick ≤ 1073741824 := bt_true hb1.out
  replace hE := Lib.hid (show E = if x.tick < h.tick then 11 else deedE c (h.led x.drill) (h.led (!x.drill)) x by rw [hE.out]; unfold doE; rw [if_neg (by omega)])
  have c0 : w2.cell? ⟨hb, 0, none⟩ = some (.int .i64 h.tick) := S.p.blk.cell 0
  by_cases h2 : x.tick < h.tick
  · have e1 := Lib.hid (show 11 = E by rw [hE.out, if_pos h2])
    go_wp2_with fail
    go_quiet (fail)
    go_wp2
    go_ret
    exact RDoPost.err (S.kpN ((Kp.refl _ _ _).drewN _)) e1.out (by rw [← e1.out]; decide)
  replace hE := Lib.hid (hE.out.trans (if_neg h2))
  go_wp2_with fail
  go_quiet (fail)
  replace S := S.kpN ((Kp.refl _ _ _).drewN nq)
  clear cx c0
  generalize w2.drewN nq = w3 at S ⊢
  clear nq
  go_wp2_with fail
  go_quiet (fail)
  replace S := S.kpN ((Kp.refl _ _ _).drewN nq)
  generalize w3.drewN nq = w4 at S ⊢
  clear nq
  obtain ⟨yy, hyy⟩ : ∃ q, q = x.drill := ⟨_, rfl⟩
  have cy : w4.cell? ⟨xb, 2, none⟩ = some (.bool yy) := by rw [hyy]; exact S.x.blk.cell 2
  replace hyy := Lib.hid hyy
  go_upto_if 28 with (fail)
  have hT : yy = true → x.drill = true := fun e => hyy.out ▸ e
  have hF : yy = false → x.drill = false := fun e => hyy.out ▸ e
  replace hT := Lib.hid hT
  replace hF := Lib.hid hF
  clear cy hyy
  go_cut [7, 8] (fun v7 v8 wx => RAtOwn B hb cb xb V c v h x w v7 v8 wx)
  case first =>
    cases yy
    · have e : x.drill = false := by first | exact hF.out rfl | exact hF.out trivial
      replace e := Lib.hid e
      clear hT hF
      replace S := Lib.hid S
      go_wp2_with fail
      go_meet
      case rel => exact ⟨by rw [e.out]; rfl, by rw [e.out]; rfl, S.out⟩
    · have e : x.drill = true := by first | exact hT.out rfl | exact hT.out trivial
      replace e := Lib.hid e
      clear hT hF
      replace S := Lib.hid S
      go_wp2_with fail
      go_meet
      case rel => exact ⟨by rw [e.out]; rfl, by rw [e.out]; rfl, S.out⟩
  case rest =>
  clear S hT hF
  rename World => w5
  obtain ⟨rfl, rfl, S⟩ := hcut
  have cc := fun i => S.cl.blk.cell i
  have stp : ∀ W e L, RDPost B hb v h x E L w5 e W → e = .returned (.int .i64 E) ∧ ∃ v', GS B hb cb xb V c v v' (if E = 0 then h.put x.drill L else h) x w W := fun W e L q => by
    obtain ⟨a, v', b, f⟩ := q
    exact ⟨a, v', S.step ⟨b, f⟩⟩
  obtain ⟨D, hD⟩ : ∃ q, q = deedL c (h.led x.drill) x := ⟨_, rfl⟩
  obtain ⟨kk, hkk⟩ : ∃ q, q = x.kind := ⟨_, rfl⟩
  have dF : kk = 1 → Calls Try.prog 64 #[.agg #[.slice V.am c.members.length V.cm, .slice V.al c.laws.length V.cl, .slice V.av c.levels.length V.cv], .pointer (some ⟨hb, rD x.drill, none⟩), .agg #[.int .i64 x.kind, .int .i64 x.tick, .bool x.drill, .int .i64 x.a, .int .i64 x.b, .bool x.yes, .int .i64 x.chance.least, .int .i64 x.chance.most, .int .i64 x.chance.all]] w5 (RDPost B hb v h x E D w5) := fun e0 => by
    have e : x.kind = 1 := hkk ▸ e0
    rw [hE.out, hD]; unfold deedE deedL; rw [if_pos e, if_pos e]
    exact ref_fact_any B hb n V c v h x w5 S.p S.ca hc.out hk.out (by omega)
  have dM : kk = 2 → Calls Try.prog 65 #[.agg #[.slice V.am c.members.length V.cm, .slice V.al c.laws.length V.cl, .slice V.av c.levels.length V.cv], .pointer (some ⟨hb, rD x.drill, none⟩), .agg #[.int .i64 x.kind, .int .i64 x.tick, .bool x.drill, .int .i64 x.a, .int .i64 x.b, .bool x.yes, .int .i64 x.chance.least, .int .i64 x.chance.most, .int .i64 x.chance.all]] w5 (RDPost B hb v h x E D w5) := fun e0 => by
    have e : x.kind = 2 := hkk ▸ e0
    rw [hE.out, hD]; unfold deedE deedL; rw [if_neg (by omega), if_pos e, if_neg (by omega), if_pos e]
    exact ref_move_any B hb n V c v h x w5 S.p S.ca hk.out (by omega)
  have dV : kk = 3 → Calls Try.prog 66 #[.agg #[.slice V.am c.members.length V.cm, .slice V.al c.laws.length V.cl, .slice V.av c.levels.length V.cv], .pointer (some ⟨hb, rD x.drill, none⟩), .pointer (some ⟨hb, rD (!x.drill), none⟩), .agg #[.int .i64 x.kind, .int .i64 x.tick, .bool x.drill, .int .i64 x.a, .int .i64 x.b, .bool x.yes, .int .i64 x.chance.least, .int .i64 x.chance.most, .int .i64 x.chance.all]] w5 (RDPost B hb v h x E D w5) := fun e0 => by
    have e : x.kind = 3 := hkk ▸ e0
    rw [hE.out, hD]; unfold deedE deedL; rw [if_neg (by omega), if_neg (by omega), if_pos e, if_neg (by omega), if_neg (by omega), if_pos e]
    exact ref_vote_any B hb n V c v h x w5 S.p S.ca hc.out hk.out (by omega) h1.1 h1.2
  have dC : kk = 4 → Calls Try.prog 67 #[.agg #[.slice V.am c.members.length V.cm, .slice V.al c.laws.length V.cl, .slice V.av c.levels.length V.cv], .pointer (some ⟨hb, rD x.drill, none⟩), .pointer (some ⟨hb, rD (!x.drill), none⟩), .agg #[.int .i64 x.kind, .int .i64 x.tick, .bool x.drill, .int .i64 x.a, .int .i64 x.b, .bool x.yes, .int .i64 x.chance.least, .int .i64 x.chance.most, .int .i64 x.chance.all]] w5 (RDPost B hb v h x E D w5) := fun e0 => by
    have e : x.kind = 4 := hkk ▸ e0
    rw [hE.out, hD]; unfold deedE deedL; rw [if_neg (by omega), if_neg (by omega), if_neg (by omega), if_pos e, if_neg (by omega), if_neg (by omega), if_neg (by omega)]
    exact ref_closes_any B hb n V c v h x w5 S.p S.ca hc.out hk.out hn
  have d0 : kk ≠ 1 → kk ≠ 2 → kk ≠ 3 → kk ≠ 4 → 4 = E := fun a b c' d => by
    rw [hkk] at a b c' d
    rw [hE.out]; unfold deedE; rw [if_neg a, if_neg b, if_neg c', if_neg d]
  have d4 : 4 = E → GS B hb cb xb V c v v (if E = 0 then h.put x.drill D else h) x w w5 := fun e => by rw [if_neg (by omega)]; exact S
  have ck : w5.cell? ⟨xb, 0, none⟩ = some (.int .i64 kk) := by rw [hkk]; exact S.x.blk.cell 0
  replace stp := Lib.hid stp
  replace hD := Lib.hid hD
  replace dF := Lib.hid dF
  replace dM := Lib.hid dM
  replace dV := Lib.hid dV
  replace dC := Lib.hid dC
  replace d0 := Lib.hid d0
  replace d4 := Lib.hid d4
  replace hkk := Lib.hid hkk
  go_upto_block 0 with (fail)
  clear ck
  go_cut [9] (fun v9 wx => RAtDeed B hb cb xb V c v h x E D w v9 wx)
  case first =>
    have cx0 : w5.cell? ⟨xb, 0, none⟩ = some (.int .i64 x.kind) := S.x.blk.cell 0
    have cx1 : w5.cell? ⟨xb, 1, none⟩ = some (.int .i64 x.tick) := S.x.blk.cell 1
    have cx2 : w5.cell? ⟨xb, 2, none⟩ = some (.bool x.drill) := S.x.blk.cell 2
    have cx3 : w5.cell? ⟨xb, 3, none⟩ = some (.int .i64 x.a) := S.x.blk.cell 3
    have cx4 : w5.cell? ⟨xb, 4, none⟩ = some (.int .i64 x.b) := S.x.blk.cell 4
    have cx5 : w5.cell? ⟨xb, 5, none⟩ = some (.bool x.yes) := S.x.blk.cell 5
    have cx6 : w5.cell? ⟨xb, 6, none⟩ = some (.int .i64 x.chance.least) := S.x.blk.cell 6
    have cx7 : w5.cell? ⟨xb, 7, none⟩ = some (.int .i64 x.chance.most) := S.x.blk.cell 7
    have cx8 : w5.cell? ⟨xb, 8, none⟩ = some (.int .i64 x.chance.all) := S.x.blk.cell 8
    clear S
    by_cases k1 : kk = 1
    · subst k1
      go_wp2_with fail
      refine (dF.out (by first | rfl | trivial)).mono ?_
      rintro e w6 q
      obtain ⟨rfl, v6, S6⟩ := stp.out _ _ _ q
      replace S6 := Lib.hid S6
      clear q
      go_wp2_with fail
      go_meet
      case rel => exact ⟨rfl, v6, S6.out⟩
    by_cases k2 : kk = 2
    · subst k2
      go_wp2_with fail
      refine (dM.out (by first | rfl | trivial)).mono ?_
      rintro e w6 q
      obtain ⟨rfl, v6, S6⟩ := stp.out _ _ _ q
      replace S6 := Lib.hid S6
      clear q
      go_wp2_with fail
      go_meet
      case rel => exact ⟨rfl, v6, S6.out⟩
    by_cases k3 : kk = 3
    · subst k3
      go_wp2_with fail
      refine (dV.out (by first | rfl | trivial)).mono ?_
      rintro e w6 q
      obtain ⟨rfl, v6, S6⟩ := stp.out _ _ _ q
      replace S6 := Lib.hid S6
      clear q
      go_wp2_with fail
      go_meet
      case rel => exact ⟨rfl, v6, S6.out⟩
    by_cases k4 : kk = 4
    · subst k4
      go_wp2_with fail
      refine (dC.out (by first | rfl | trivial)).mono ?_
      rintro e w6 q
      obtain ⟨rfl, v6, S6⟩ := stp.out _ _ _ q
      replace S6 := Lib.hid S6
      clear q
      go_wp2_with fail
      go_meet
      case rel => exact ⟨rfl, v6, S6.out⟩
    have e4 := d0.out k1 k2 k3 k4
    have S6 := Lib.hid (d4.out e4)
    replace e4 := Lib.hid e4
    clear d4 d0 dF dM dV dC stp
    go_wp2_with fail
    go_meet
    case rel => exact ⟨by rw [e4.out], v, S6.out⟩
  case rest =>
  clear S cc dF dM dV dC d0 d4 stp hkk
  rename World => w6
  obtain ⟨rfl, v6, S⟩ := hcut
  by_cases q0 : E = 0
  case neg =>
    rw [if_neg q0] at S
    have q1 : (E == 0) = false := by simpa using q0
    have fin := Lib.hid (RDoPost.err (n := E) (H := doH c h x) S rfl q0)
    clear S
    go_wp2
    go_ret
    exact fin.out
  rw [if_pos q0] at S
  have hii := (hk.out.led x.drill).itn
  have hi0 := (hk.out.led x.drill).it0
  have hDi : D.items = (h.led x.drill).items := by rw [hD.out]; exact deedL_items _ _ _
  have cx := fun i => S.x.blk.cell i
  have c0 : w6.cell? ⟨hb, 0, none⟩ = some (.int .i64 (h.put x.drill D).tick) := S.p.blk.cell 0
  have ci : w6.cell? ⟨hb, rD x.drill, none⟩ = some (.int .i64 (h.led x.drill).items) := by rw [← hDi]; exact (S.p.blk.cell _).trans ((rCells_items _ _ x.drill).trans (by rw [put_led]))
  have fh := fun i => S.p.blk.frozen i
  have st1 := S.p.tickStep x.tick
  have st2 := st1.1.itemsStep x.drill ((h.led x.drill).items + 1)
  have e9 : ({ h.put x.drill D with tick := x.tick } : House).put x.drill { ({ h.put x.drill D with tick := x.tick } : House).led x.drill with items := (h.led x.drill).items + 1 } = doH c h x := by
    unfold doH oneMore
    rw [← hD.out, ← hDi]
    cases x.drill <;> rfl
  rw [e9] at st2
  have F9 := S.f.trans (st1.2.trans st2.2)
  have ho0 : 0 ≠ rD x.drill := by unfold rD; split <;> omega
  have hwr : wrap64 ((h.led x.drill).items + 1) = (h.led x.drill).items + 1 := IntWalk.wrap64_in _ (by omega)
  have fin : RDoPost B hb v h E (doH c h x) w (.returned (.int .i64 0)) ((w6.setCell ⟨hb, 0, none⟩ (.int .i64 x.tick)).setCell ⟨hb, rD x.drill, none⟩ (.int .i64 ((h.led x.drill).items + 1))) :=
    ⟨by rw [q0], v6, by rw [if_pos q0]; exact st2.1, F9⟩
  replace fin := Lib.hid fin
  obtain ⟨o, ho⟩ : ∃ q, q = rD x.drill := ⟨_, rfl⟩
  rw [← ho] at ci ho0 fin
  rw [← ho]
  clear st1 st2 F9 hii hi0 e9 S hDi
  replace ho := Lib.hid ho
  subst q0
  go_wp2
  go_ret
  exact fin.out
end Go.Proofs.Ytogpgnljomchcaa
