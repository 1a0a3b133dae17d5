/- What a deed of the reference's house carries along. fact: the reference. move: the reference. -/
import Derived.Test.YtogpgnljomchcaaGreatRd
import Derived.Test.YtogpgnljomchcaaGreatJvAll
namespace Go.Proofs.YtogpgnljomchcaaGreat
open Go.RowKit

structure GS (B hb cb xb : Nat) (V : CV) (c : Council) (v0 v : Ky → Value) (h : House) (x : CItem) (w0 w : World) : Prop where
  p : RH B hb w v h
  ca : CAt B w V c
  cl : Lcl hb v w cb 28 #[.slice V.am c.members.length V.cm, .slice V.al c.laws.length V.cl, .slice V.av c.levels.length V.cv]
  x : Lcl hb v w xb 36 #[.int .i64 x.kind, .int .i64 x.tick, .bool x.drill, .int .i64 x.a, .int .i64 x.b, .bool x.yes, .int .i64 x.chance.least, .int .i64 x.chance.most, .int .i64 x.chance.all]
  f : Fr hb v0 v w0 w
theorem RH.other {B hb g : Nat} {w w' : World} {v : Ky → Value} {h : House} (p : RH B hb w v h) (hg : w.grownBy w' (some g)) (ha : Apart hb v g) : RH B hb w' v h :=
  ⟨p.rows.other hg ha, p.low, (hg.block hb p.lt (fun e => ha.1 (by injection e with e; exact e.symm))).trans p.blk⟩
theorem CAt.other {B g : Nat} {w w' : World} {V : CV} {c : Council} (p : CAt B w V c) (hg : w.grownBy w' (some g)) (hB : B ≤ g) (hw : B ≤ w.heap.size) : CAt B w' V c :=
  p.kp ⟨hg.os, hg.tape, hg.output, hg.size, fun k hk _ => hg.block k (by omega) (fun e => by injection e with e; omega)⟩
section
variable {B hb cb xb : Nat} {V : CV} {c : Council} {v0 v v' : Ky → Value} {h h' : House} {x : CItem} {w0 w w' : World}
theorem GS.start (p : RH B hb w v h) (hc : CAt B w V c) (x : CItem) : GS B hb w.heap.size (w.heap.size + 1) V c v v h x w ((w.alloc (.cells #[.slice V.am c.members.length V.cm, .slice V.al c.laws.length V.cl, .slice V.av c.levels.length V.cv] 28)).alloc (.cells #[.int .i64 x.kind, .int .i64 x.tick, .bool x.drill, .int .i64 x.a, .int .i64 x.b, .bool x.yes, .int .i64 x.chance.least, .int .i64 x.chance.most, .int .i64 x.chance.all] 36)) := by
  have p1 := p.alloc (.cells #[.slice V.am c.members.length V.cm, .slice V.al c.laws.length V.cl, .slice V.av c.levels.length V.cv] 28)
  have l1 := (p.lcl 28 #[.slice V.am c.members.length V.cm, .slice V.al c.laws.length V.cl, .slice V.av c.levels.length V.cv]).kpN (Kp.new _ (.cells #[.int .i64 x.kind, .int .i64 x.tick, .bool x.drill, .int .i64 x.a, .int .i64 x.b, .bool x.yes, .int .i64 x.chance.least, .int .i64 x.chance.most, .int .i64 x.chance.all] 36))
  have l2 := p1.lcl 36 #[.int .i64 x.kind, .int .i64 x.tick, .bool x.drill, .int .i64 x.a, .int .i64 x.b, .bool x.yes, .int .i64 x.chance.least, .int .i64 x.chance.most, .int .i64 x.chance.all]
  rw [show (w.alloc (.cells #[.slice V.am c.members.length V.cm, .slice V.al c.laws.length V.cl, .slice V.av c.levels.length V.cv] 28)).heap.size = w.heap.size + 1 by simp] at l2
  exact ⟨p1.alloc _, hc.kpN (Kp.new2 _ _ _), l1, l2, ((Fr.refl hb v w).alloc _).alloc _⟩
theorem GS.kpN (s : GS B hb cb xb V c v0 v h x w0 w) (k : Kp w.heap.size none w w') : GS B hb cb xb V c v0 v h x w0 w' := ⟨s.p.kpN k, s.ca.kpN k, s.cl.kpN k, s.x.kpN k, s.f.thenKp k⟩
theorem GS.drew (s : GS B hb cb xb V c v0 v h x w0 w) : GS B hb cb xb V c v0 v h x w0 w.drew := s.kpN (Kp.refl _ _ _).drew
theorem GS.step (s : GS B hb cb xb V c v0 v h x w0 w) (q : RH B hb w' v' h' ∧ Fr hb v v' w w') : GS B hb cb xb V c v0 v' h' x w0 w' := ⟨q.1, s.ca.kp (s.p.kp q.2), s.cl.fr q.2, s.x.fr q.2, s.f.trans q.2⟩
theorem GS.other {g : Nat} (s : GS B hb cb xb V c v0 v h x w0 w) (hg : w.grownBy w' (some g)) (ha : Apart hb v g) (h0 : w0.heap.size ≤ g) (h1 : cb ≠ g) (h2 : xb ≠ g) (hB : B ≤ g) : GS B hb cb xb V c v0 v h x w0 w' :=
  ⟨s.p.other hg ha, s.ca.other hg hB (by have := s.p.low; have := s.p.lt; omega), s.cl.other hg h1, s.x.other hg h2, s.f.other hg h0⟩
theorem GS.fresh (s : GS B hb cb xb V c v0 v h x w0 w) (t : TypeId) (cs : Array Value) :
    ∃ nb wq, wq = w.alloc (.cells cs t) ∧ nb = w.heap.size ∧ GS B hb cb xb V c v0 v h x w0 wq ∧ Lcl hb v wq nb t cs ∧ w0.heap.size ≤ nb ∧ cb ≠ nb ∧ xb ≠ nb ∧ B ≤ nb :=
  ⟨w.heap.size, _, rfl, rfl, s.kpN (Kp.new _ _), s.p.lcl _ _, s.f.size, by have := s.cl.blk.lt; omega, by have := s.x.blk.lt; omega, by have := s.p.low; have := s.p.lt; omega⟩
end
theorem rCells_items (v : Ky → Value) (h : House) (d : Bool) : (rCells v h)[rD d]? = some (.int .i64 (h.led d).items) := by cases d <;> rfl
theorem rCells_facts (v : Ky → Value) (h : House) (d : Bool) : (rCells v h)[rD d + 1]? = some (v (.facts d)) := by cases d <;> rfl
theorem rCells_mot (v : Ky → Value) (h : House) (d : Bool) : (rCells v h)[rD d + 2]? = some (v (.motions d)) := by cases d <;> rfl
theorem rCells_sent (v : Ky → Value) (h : House) (d : Bool) : (rCells v h)[rD d + 3]? = some (v (.sent d)) := by cases d <;> rfl
theorem grown_of_kp {w w' : World} (k : Kp w.heap.size none w w') (row : Option Nat) : w.grownBy w' row := ⟨k.os, k.tape, k.output, k.size, fun i hi _ => k.block i hi (by simp)⟩
def RDPost (B hb : Nat) (v : Ky → Value) (h : House) (x : CItem) (E : Int) (L : Ledger) (w : World) (e : Ending) (w' : World) : Prop :=
  e = .returned (.int .i64 E) ∧ ∃ v', RH B hb w' v' (if E = 0 then h.put x.drill L else h) ∧ Fr hb v v' w w'
theorem RDPost.err {B hb cb xb : Nat} {V : CV} {c : Council} {v v' : Ky → Value} {h : House} {x : CItem} {E : Int} {L : Ledger} {w w' : World} {n : Int} (s : GS B hb cb xb V c v v' h x w w') (hn : n = E) (h0 : E ≠ 0) : RDPost B hb v h x E L w (.returned (.int .i64 n)) w' :=
  ⟨by rw [hn], v', by rw [if_neg h0]; exact s.p, s.f⟩
theorem RDPost.fin {B hb cb xb : Nat} {V : CV} {c : Council} {v v' : Ky → Value} {h : House} {x : CItem} {E : Int} {L : Ledger} {w w' : World} (s : GS B hb cb xb V c v v' (h.put x.drill L) x w w') (h0 : E = 0) : RDPost B hb v h x E L w (.returned (.int .i64 0)) w' :=
  ⟨by rw [h0], v', by rw [if_pos h0]; exact s.p, s.f⟩
theorem RH.motAt {B hb : Nat} {w : World} {v : Ky → Value} {h : House} {d : Bool} (p : RH B hb w v h) {g n cap : Nat} (hv : v (.motions d) = .slice (some ⟨g, 0, none⟩) n cap) (i : Nat) (hi : i < (h.led d).motions.length) :
    (∀ j u, (encMot (v (.voted d i)) (h.led d).motions[i])[j]? = some u → w.cell? ⟨g, i * 8 + j, none⟩ = some u) ∧ (∀ j, w.frozen? ⟨g, j, none⟩ = false) ∧ g < w.heap.size ∧ g ≠ hb ∧ B ≤ g := by
  have own := p.rows.motions d
  rw [hv] at own
  obtain ⟨A, cap', e, rd, -⟩ := own.rd0 (fun _ => rfl)
  simp only [Value.slice.injEq] at e
  obtain ⟨rfl, rfl, rfl⟩ := e
  have hge := own.ge g rfl
  refine ⟨fun j u hj => ?_, fun j => World.ownsRow.frozenAt own j, hge.2, fun e => p.rows.hb (.motions d) hb (by rw [rowOf_v, hv, ← e]; rfl) rfl, hge.1⟩
  have hz : i < (zipV (fun i => v (.voted d i)) 0 (h.led d).motions).length := by rw [zipV_len]; exact hi
  obtain ⟨b, o', e2, -, -, hcc⟩ := rd.at_ (by omega)
  simp only [Option.some.injEq, Addr.mk.injEq] at e2
  obtain ⟨rfl, rfl, -⟩ := e2
  have := hcc i hz j u (by rw [zipV_at _ _ _ _ hi, Nat.zero_add]; exact hj)
  rwa [Nat.zero_add] at this
theorem RH.motForm {B hb : Nat} {w : World} {v : Ky → Value} {h : House} (p : RH B hb w v h) (d : Bool) : ∃ A cap, v (.motions d) = .slice A (h.led d).motions.length cap ∧ (0 < (h.led d).motions.length → ∃ g, A = some ⟨g, 0, none⟩) := by
  obtain ⟨A, cap, e, -, hA⟩ := (p.rows.motions d).rd0 (fun _ => rfl)
  rw [zipV_len] at e
  refine ⟨A, cap, e, fun h0 => ?_⟩
  rcases hA with ⟨-, hz, -⟩ | ⟨g, rfl, -⟩
  · have := congrArg List.length hz
    rw [zipV_len] at this
    simp at this
    rw [this] at h0
    simp at h0
  · exact ⟨g, rfl⟩
theorem RH.motEnd {B hb : Nat} {w : World} {v : Ky → Value} {h : House} {d : Bool} (p : RH B hb w v h) {g n cap : Nat} (hv : v (.motions d) = .slice (some ⟨g, 0, none⟩) n cap) (i : Nat) (hi : i < (h.led d).motions.length) (s f : Int) :
    RH B hb ((w.setCell ⟨g, i * 8 + 3, none⟩ (.int .i64 s)).setCell ⟨g, i * 8 + 7, none⟩ (.int .i64 f)) v (h.put d { h.led d with motions := (h.led d).motions.set i { (h.led d).motions[i] with state := s, fact := f } }) ∧
      Fr hb v v w ((w.setCell ⟨g, i * 8 + 3, none⟩ (.int .i64 s)).setCell ⟨g, i * 8 + 7, none⟩ (.int .i64 f)) := by
  have a := p.motCell hv i hi 3 (by omega) (.int .i64 s) { (h.led d).motions[i] with state := s } rfl rfl
  have e1 : ∀ l : Ledger, ((h.put d l).led d) = l := fun l => put_led h d l
  have hi2 : i < ((h.put d { h.led d with motions := (h.led d).motions.set i { (h.led d).motions[i] with state := s } }).led d).motions.length := by rw [e1]; simpa using hi
  have hm2 : ((h.put d { h.led d with motions := (h.led d).motions.set i { (h.led d).motions[i] with state := s } }).led d).motions[i] = { (h.led d).motions[i] with state := s } := by
    simp only [e1, List.getElem_set_self]
  have b := a.1.motCell hv i hi2 7 (by omega) (.int .i64 f) { (h.led d).motions[i] with state := s, fact := f } (by rw [hm2]) (by rw [hm2]; rfl)
  rw [put_put, e1] at b
  simp only [List.set_set] at b
  exact ⟨b.1, a.2.trans b.2⟩
end Go.Proofs.YtogpgnljomchcaaGreat
namespace Go.Proofs.YtogpgnljomchcaaGreat
open Go.RowKit

def RAtNew (B hb cb xb : Nat) (V : CV) (c : Council) (v : Ky → Value) (h : House) (x : CItem) (k : Known) (w : World) (v8 : Value) (wx : World) : Prop :=
  ∃ nb, v8 = .pointer (some ⟨nb, 0, none⟩) ∧ GS B hb cb xb V c v v h x w wx ∧ Lcl hb v wx nb 68 #[.int .i64 k.target, .int .i64 k.level, .int .i64 k.item, .int .i64 k.chance.least, .int .i64 k.chance.most, .int .i64 k.chance.all] ∧ w.heap.size ≤ nb ∧ cb ≠ nb ∧ xb ≠ nb
def RAtSent (B hb cb xb : Nat) (V : CV) (c : Council) (v : Ky → Value) (h : House) (x : CItem) (k : Known) (nb : Nat) (w : World) (_v : Value) (wx : World) : Prop :=
  ∃ v', GS B hb cb xb V c v v' (h.put x.drill (mixL c (h.led x.drill) x k 0)) x w wx ∧ Lcl hb v' wx nb 68 #[.int .i64 k.target, .int .i64 k.level, .int .i64 k.item, .int .i64 k.chance.least, .int .i64 k.chance.most, .int .i64 k.chance.all]
def RAtLaw (B hb cb xb : Nat) (V : CV) (c : Council) (v0 v2 : Ky → Value) (h : House) (x : CItem) (k : Known) (i nb : Nat) (m : Motion) (w : World) (v14 : Value) (wx : World) : Prop :=
  ∃ lb, v14 = .pointer (some ⟨lb, 0, none⟩) ∧ GS B hb cb xb V c v0 v2 (h.put x.drill (mixL c (h.led x.drill) x k i)) x w wx ∧ Lcl hb v2 wx nb 68 #[.int .i64 k.target, .int .i64 k.level, .int .i64 k.item, .int .i64 k.chance.least, .int .i64 k.chance.most, .int .i64 k.chance.all] ∧ Lcl hb v2 wx lb 101 #[.int .i64 (lawD c m.act).act, .int .i64 (lawD c m.act).level, .int .i64 (lawD c m.act).window, .int .i64 (lawD c m.act).quorum, .int .i64 (lawD c m.act).share] ∧ nb ≠ lb
def RFactAt (B hb cb xb : Nat) (V : CV) (c : Council) (v0 v2 : Ky → Value) (h : House) (x : CItem) (k : Known) (nb nm : Nat) (w : World) (v : Value) (wr : World) : Prop :=
  ∃ i : Nat, v = .int .i64 i ∧ i ≤ nm ∧ GS B hb cb xb V c v0 v2 (h.put x.drill (mixL c (h.led x.drill) x k i)) x w wr ∧ Lcl hb v2 wr nb 68 #[.int .i64 k.target, .int .i64 k.level, .int .i64 k.item, .int .i64 k.chance.least, .int .i64 k.chance.most, .int .i64 k.chance.all]
theorem withK_pos (k : Known) : ∀ l : List Known, 0 < (withK k l).length
  | [] => by simp [withK]
  | y :: r => by
    unfold withK
    split
    · simp
    · split <;> simp
set_option maxRecDepth 20000 in
set_option maxHeartbeats 40000000 in
theorem ref_fact_any (B hb n : Nat) (V : CV) (c : Council) (v : Ky → Value) (h : House) (x : CItem) (w : World) (p : RH B hb w v h) (hC : CAt B w V c) (hc : CouncilOk c) (hk : HouseOk c n h) (hn : n ≤ 4000) :
    Calls Tryz.prog 74 #[.agg #[.slice V.am c.members.length V.cm, .slice V.al c.laws.length V.cl, .slice V.av c.levels.length V.cv], .pointer (some ⟨hb, rD x.drill, none⟩), .agg #[.int .i64 x.kind, .int .i64 x.tick, .bool x.drill, .int .i64 x.a, .int .i64 x.b, .bool x.yes, .int .i64 x.chance.least, .int .i64 x.chance.most, .int .i64 x.chance.all]] w (RDPost B hb v h x (factE x) (factL c (h.led x.drill) x) w) := by
  have S := GS.start p hC x
  have hhw : hb < w.heap.size := p.lt
  have hBw : B ≤ w.heap.size := by have := p.low; omega
  obtain ⟨cb, hcb⟩ : ∃ q, q = w.heap.size := ⟨_, rfl⟩
  obtain ⟨xb, hxb⟩ : ∃ q, q = w.heap.size + 1 := ⟨_, rfl⟩
  obtain ⟨E, hE⟩ : ∃ q, q = factE x := ⟨_, rfl⟩
  rw [← hE]
  replace hE := Lib.hid hE
  obtain ⟨o, ho⟩ : ∃ q, q = rD x.drill := ⟨_, rfl⟩
  rw [← ho]
  replace ho := Lib.hid ho
  replace hc := Lib.hid hc
  replace hk := Lib.hid hk
  go_enter Tryz.func74, Tryz.ntmps74
  go_upto_region 1 with (fail)
  rw [← hxb, ← hcb] at S
  rw [← hxb, ← hcb]
  have hcw : w.heap.size ≤ cb := by omega
  have hxw : w.heap.size ≤ xb := by omega
  have hcx : cb ≠ xb := by omega
  have hhc : hb ≠ cb := by omega
  have hhx : hb ≠ xb := by omega
  replace hxb := Lib.hid hxb
  replace hcb := Lib.hid hcb
  generalize (w.alloc (.cells #[.slice V.am c.members.length V.cm, .slice V.al c.laws.length V.cl, .slice V.av c.levels.length V.cv] 28)).alloc (.cells #[.int .i64 x.kind, .int .i64 x.tick, .bool x.drill, .int .i64 x.a, .int .i64 x.b, .bool x.yes, .int .i64 x.chance.least, .int .i64 x.chance.most, .int .i64 x.chance.all] 36) = w1 at S ⊢
  have cx := fun i => S.x.blk.cell i
  by_cases h1 : x.a < 1
  · have e1 := Lib.hid (show 2 = E by rw [hE.out]; unfold factE; rw [if_pos (.inl h1)])
    go_wp2
    go_ret
    exact RDPost.err S e1.out (by rw [← e1.out]; decide)
  by_cases h2 : 999 < x.a
  · have e1 := Lib.hid (show 2 = E by rw [hE.out]; unfold factE; rw [if_pos (.inr h2)])
    go_wp2
    go_ret
    exact RDPost.err S e1.out (by rw [← e1.out]; decide)
  have hE2 := Lib.hid (show E = chanceErr x.chance by rw [hE.out]; unfold factE; rw [if_neg (by omega)])
  clear hE
  go_wp2_with fail
  refine (ref_CheckChance_any x.chance _).mono ?_
  rintro e w2 ⟨rfl, k2⟩
  replace S := S.kpN k2
  clear k2 cx
  have cx := fun i => S.x.blk.cell i
  by_cases h3 : chanceErr x.chance = 0
  case neg =>
    have h3' : ¬ (0 = chanceErr x.chance) := fun e => h3 e.symm
    generalize chanceErr x.chance = ce at h3 h3' hE2 ⊢
    go_wp2
    go_ret
    exact RDPost.err S hE2.out.symm (by rw [hE2.out]; exact h3)
  replace hE2 := Lib.hid (show E = 0 by rw [hE2.out, h3])
  rw [h3]
  replace h3 := Lib.hid h3
  go_upto_region 6 with (fail)
  go_cut [8] (fun v8 wx => RAtNew B hb cb xb V c v h x (newK c (h.led x.drill) x) w v8 wx)
  case first =>
    clear cx
    replace S := S.drew
    obtain ⟨S0, hS⟩ : ∃ S0 : World → Prop, S0 = fun w' => Blk w' xb 36 #[.int .i64 x.kind, .int .i64 x.tick, .bool x.drill, .int .i64 x.a, .int .i64 x.b, .bool x.yes, .int .i64 x.chance.least, .int .i64 x.chance.most, .int .i64 x.chance.all] ∧ Blk w' hb 43 (rCells v h) ∧ Blk w' cb 28 #[.slice V.am c.members.length V.cm, .slice V.al c.laws.length V.cl, .slice V.av c.levels.length V.cv] := ⟨_, rfl⟩
    have hS0 : ∀ w', S0 w' ↔ (Blk w' xb 36 #[.int .i64 x.kind, .int .i64 x.tick, .bool x.drill, .int .i64 x.a, .int .i64 x.b, .bool x.yes, .int .i64 x.chance.least, .int .i64 x.chance.most, .int .i64 x.chance.all] ∧ Blk w' hb 43 (rCells v h) ∧ Blk w' cb 28 #[.slice V.am c.members.length V.cm, .slice V.al c.laws.length V.cl, .slice V.av c.levels.length V.cv]) := fun w' => by rw [hS]
    clear hS
    have cx := fun (q : Ev S0) i => ((hS0 _).1 q.h).1.cell i
    have cc := fun (q : Ev S0) i => ((hS0 _).1 q.h).2.2.cell i
    have ci : ∀ q : Ev S0, q.w.cell? ⟨hb, o, none⟩ = some (.int .i64 (h.led x.drill).items) := fun q => by rw [ho.out]; exact (((hS0 _).1 q.h).2.1.cell _).trans (rCells_items v h x.drill)
    have hevT := ev_true
    refine wp_region_tr S0 (.st 0 0 (.st 1 1 (.st 2 1 (.st 3 0 (.st 4 1 (.st 6 0 (.st 7 0 (.st 8 0 (.st 9 1 (.st 10 0 (.st 11 1 (.b2 5 (.st 12 0 (.st 13 2 (.st 14 2 .nil))) 13 (.st 5 2 (.st 12 0 (.st 14 2 .nil))))))))))))))) (by kernel_rfl) (by kernel_rfl) ((hS0 _).2 ⟨S.x.blk, S.p.blk, S.cl.blk⟩) ?_
    intro _hev
    iterate 11 (first | (refine wpTr_v rfl rfl ?_; intro K hK; go_big_quiet_op; go_big_quiet_on) | (refine wpTr_q rfl rfl ?_; intro K hK; go_big_quiet_op; go_big_quiet_on) | refine wpTr_s rfl rfl ?_)
    refine wpTr_b2 ?_ ?_
    · refine wpOne_l rfl rfl ?_; intro K hK
      go_step
      refine (ref_level_any x.chance B V c _ S.ca hc.out.vlen hc.out.lev h3.out).mono ?_
      rintro e w5 ⟨rfl, k5⟩
      replace S := S.kpN k5
      try (replace NB := NB.kpN k5)
      refine hK _ _ ((hS0 _).2 ⟨S.x.blk, S.p.blk, S.cl.blk⟩) ?_
      clear hK K k5
      iterate 1 (first | (refine wpTr_v rfl rfl ?_; intro K hK; go_big_quiet_op; go_big_quiet_on) | (refine wpTr_q rfl rfl ?_; intro K hK; go_big_quiet_op; go_big_quiet_on) | refine wpTr_s rfl rfl ?_)
      refine wpTr_l rfl rfl ?_; intro K hK
      obtain ⟨nb, wq, hwq, hnb, S, NB, hn0, hnc, hnx, hBn⟩ := S.fresh 68 #[.int .i64 0, .int .i64 0, .int .i64 0, .int .i64 0, .int .i64 0, .int .i64 0]
      go_step
      first | rw [← hwq] | rw [show (World.alloc w2 (.cells #[.int .i64 0, .int .i64 0, .int .i64 0, .int .i64 0, .int .i64 0, .int .i64 0] 68)).drew = wq from hwq.symm]
      first | rw [← hnb] | rw [← show nb = w2.heap.size from hnb]
      replace hnb := Lib.hid hnb
      refine hK _ _ ((hS0 _).2 ⟨S.x.blk, S.p.blk, S.cl.blk⟩) ?_
      clear hK K hwq
      refine wpTr_l rfl rfl ?_; intro K hK
      have cN := fun i => NB.blk.cell i
      have fN := fun i => NB.blk.frozen i
      go_step
      have S2 := S.other (setK0_grown _ nb (newK c (h.led x.drill) x)) NB.apart hn0 hnc hnx hBn
      have NB2 : Lcl hb v _ nb _ _ := ⟨Blk.setK0 NB.blk (newK c (h.led x.drill) x), NB.apart⟩
      clear cN fN
      change K _ (setK0 _ nb (newK c (h.led x.drill) x))
      generalize setK0 _ nb (newK c (h.led x.drill) x) = w7 at S2 NB2 ⊢
      refine hK _ _ ((hS0 _).2 ⟨S2.x.blk, S2.p.blk, S2.cl.blk⟩) ?_
      clear hK K
      refine wpTr_nil ?_
      clear hevT _hev
      go_wp2_with fail
      go_meet
      case rel => exact ⟨nb, rfl, S2, NB2, hn0, hnc, hnx⟩
    · refine wpOne_l rfl rfl ?_; intro K hK
      obtain ⟨nb, wq, hwq, hnb, S, NB, hn0, hnc, hnx, hBn⟩ := S.fresh 68 #[.int .i64 0, .int .i64 0, .int .i64 0, .int .i64 0, .int .i64 0, .int .i64 0]
      go_step
      first | rw [← hwq] | rw [show (World.alloc w2 (.cells #[.int .i64 0, .int .i64 0, .int .i64 0, .int .i64 0, .int .i64 0, .int .i64 0] 68)).drew = wq from hwq.symm]
      first | rw [← hnb] | rw [← show nb = w2.heap.size from hnb]
      replace hnb := Lib.hid hnb
      refine hK _ _ ((hS0 _).2 ⟨S.x.blk, S.p.blk, S.cl.blk⟩) ?_
      clear hK K hwq
      refine wpTr_l rfl rfl ?_; intro K hK
      go_step
      refine (ref_level_any x.chance B V c _ S.ca hc.out.vlen hc.out.lev h3.out).mono ?_
      rintro e w5 ⟨rfl, k5⟩
      replace S := S.kpN k5
      try (replace NB := NB.kpN k5)
      refine hK _ _ ((hS0 _).2 ⟨S.x.blk, S.p.blk, S.cl.blk⟩) ?_
      clear hK K k5
      iterate 1 (first | (refine wpTr_v rfl rfl ?_; intro K hK; go_big_quiet_op; go_big_quiet_on) | (refine wpTr_q rfl rfl ?_; intro K hK; go_big_quiet_op; go_big_quiet_on) | refine wpTr_s rfl rfl ?_)
      refine wpTr_l rfl rfl ?_; intro K hK
      have cN := fun i => NB.blk.cell i
      have fN := fun i => NB.blk.frozen i
      go_step
      have S2 := S.other (setK0_grown _ nb (newK c (h.led x.drill) x)) NB.apart hn0 hnc hnx hBn
      have NB2 : Lcl hb v _ nb _ _ := ⟨Blk.setK0 NB.blk (newK c (h.led x.drill) x), NB.apart⟩
      clear cN fN
      change K _ (setK0 _ nb (newK c (h.led x.drill) x))
      generalize setK0 _ nb (newK c (h.led x.drill) x) = w7 at S2 NB2 ⊢
      refine hK _ _ ((hS0 _).2 ⟨S2.x.blk, S2.p.blk, S2.cl.blk⟩) ?_
      clear hK K
      refine wpTr_nil ?_
      clear hevT _hev
      go_wp2_with fail
      go_meet
      case rel => exact ⟨nb, rfl, S2, NB2, hn0, hnc, hnx⟩
  case rest =>
  rename World => w4
  obtain ⟨nb, rfl, S, NB, hn0, hnc, hnx⟩ := hcut
  obtain ⟨k, hkk⟩ : ∃ q, q = newK c (h.led x.drill) x := ⟨_, rfl⟩
  rw [← hkk] at NB
  have hkt := Lib.hid (show k.target = x.a by rw [hkk]; rfl)
  replace hkk := Lib.hid hkk
  have hfl : (h.led x.drill).facts.length ≤ 4000 := by have := (hk.out.led x.drill).flen; omega
  have hbe : befW k 0 (h.led x.drill).facts = beforeL (h.led x.drill) x.a := by
    rw [befW_eq k _ 0 (hk.out.led x.drill).sorted, hkt.out]; rfl
  have hre : restW k false (h.led x.drill).facts = withK k (h.led x.drill).facts := restW_eq k _ (hk.out.led x.drill).sorted
  obtain ⟨bL, hbL⟩ : ∃ q, q = beforeL (h.led x.drill) x.a := ⟨_, rfl⟩
  rw [← hbL] at hbe
  replace hbL := Lib.hid hbL
  replace hbe := Lib.hid hbe
  replace hre := Lib.hid hre
  go_upto_region 7 with (fail)
  replace S := S.drew
  replace NB := NB.kpN (Kp.refl _ _ _).drew
  have T := S
  clear S
  obtain ⟨A, cap, ev, rd, -⟩ := (T.p.rows.facts x.drill).rd0 (fun _ => rfl)
  have cf : w4.drew.cell? ⟨hb, o + 1, none⟩ = some (.slice A (h.led x.drill).facts.length cap) := by rw [ho.out, ← ev]; exact (T.p.blk.cell _).trans (rCells_facts v h x.drill)
  replace ev := Lib.hid ev
  obtain ⟨S, hS⟩ : ∃ S : Nat → World → Prop, S = fun _ w' => Blk w' nb 68 #[.int .i64 k.target, .int .i64 k.level, .int .i64 k.item, .int .i64 k.chance.least, .int .i64 k.chance.most, .int .i64 k.chance.all] ∧ w'.cell? ⟨hb, o + 1, none⟩ = some (.slice A (h.led x.drill).facts.length cap) := ⟨_, rfl⟩
  have hS0 : ∀ w', S 0 w' ↔ (Blk w' nb 68 #[.int .i64 k.target, .int .i64 k.level, .int .i64 k.item, .int .i64 k.chance.least, .int .i64 k.chance.most, .int .i64 k.chance.all] ∧ w'.cell? ⟨hb, o + 1, none⟩ = some (.slice A (h.led x.drill).facts.length cap)) := fun w' => by rw [hS]
  clear hS
  have cn := fun (q : Ev (S 0)) i => ((hS0 _).1 q.h).1.cell i
  have cg := fun (q : Ev (S 0)) => ((hS0 _).1 q.h).2
  have hevT := ev_true
  refine wp_region_ord S [(0, 0), (1, 0), (2, 0), (3, 1), (4, 1), (5, 2), (6, 0), (7, 0), (8, 0), (9, 0), (10, 0)] [] (by kernel_rfl) (by kernel_rfl) ((hS0 _).2 ⟨NB.blk, cf⟩) ?_
  intro _hev
  iterate 5 (first | (refine wpOrd_v rfl rfl ?_; intro K hK; go_big_quiet_op; go_big_quiet_on) | (refine wpOrd_q rfl rfl ?_; intro K hK; go_big_quiet_op; go_big_quiet_on) | refine wpOrd_s (by decide) rfl rfl ?_)
  refine wpOrd_l rfl rfl ?_; intro K hK
  go_step
  refine (ref_with_any k A cap (h.led x.drill).facts _ rd (by omega)).mono ?_
  rintro e w5 ⟨u, rfl, ou, k5⟩
  rw [hre.out] at ou
  rw [hbe.out]
  obtain ⟨g5, cap5, rfl⟩ := Own.form ou (withK_pos _ _)
  have NB5 := NB.kpN k5
  have cf5 := k5.cellN cf
  refine hK _ _ ((hS0 _).2 ⟨NB5.blk, cf5⟩) ?_
  clear hK K
  iterate 5 (first | (refine wpOrd_v rfl rfl ?_; intro K hK; go_big_quiet_op; go_big_quiet_on) | (refine wpOrd_q rfl rfl ?_; intro K hK; go_big_quiet_op; go_big_quiet_on) | refine wpOrd_s (by decide) rfl rfl ?_)
  refine wpOrd_nil ?_
  clear hevT _hev
  clear hS0 S cn cg
  have st := T.p.factsStep (d := x.drill) _ _ (grown_of_kp k5 _) (ou.low (by have := T.p.low; have := T.p.lt; omega)) (.inr fun b hb' => (ou.ge b hb').1)
  have B5 := T.p.blk.kpN k5
  have f5 := fun i => B5.frozen i
  rw [← ho.out] at st
  have S := T.step st
  have NB6 := NB.fr st.2
  clear T NB NB5 ou k5 B5 cf rd
  go_upto_region 9 with (fail)
  clear f5 cf5
  generalize World.setCell w5 ⟨hb, o + 1, none⟩ (.slice (some ⟨g5, 0, none⟩) (withK k (h.led x.drill).facts).length cap5) = w6 at S NB6 ⊢
  clear st
  have NB := NB6
  clear NB6
  have cn := fun i => NB.blk.cell i
  go_upto_if 58 with (fail)
  clear cn
  go_cut [59] (fun v59 wx => RAtSent B hb cb xb V c v h x k nb w v59 wx)
  case first =>
    by_cases q : k.level = bL
    · have e0 : ({ h.led x.drill with facts := withK k (h.led x.drill).facts } : Ledger) = mixL c (h.led x.drill) x k 0 := by
        unfold mixL sendA; rw [mixM_zero, ← hbL.out, if_pos q.symm]
      rw [e0] at S
      have q' : (k.level != bL) = false := by simpa using q
      rw [q']
      replace S := Lib.hid S
      replace NB := Lib.hid NB
      go_wp2_with fail
      go_meet
      case rel => exact ⟨_, S.out, NB.out⟩
    · have q' : (k.level != bL) = true := by simpa using q
      rw [q']
      go_upto_region 10 with (fail)
      replace S := S.drew
      replace NB := NB.kpN (Kp.refl _ _ _).drew
      have T := S
      clear S
      obtain ⟨i0, hi0, hz0, hz1, hz2⟩ := info_parts info_alarm
      have hsl : (h.led x.drill).sent.length ≤ 4000 := by have := (hk.out.led x.drill).slen; omega
      have own := T.p.rows.sent x.drill
      rw [put_led] at own
      replace own : Own w6.drew B 106 4 encAlarm _ (h.led x.drill).sent := own
      obtain ⟨As, caps, es, -, -⟩ := own.rd0 (fun _ => rfl)
      rw [es] at own
      have cs : w6.drew.cell? ⟨hb, o + 3, none⟩ = some (.slice As (h.led x.drill).sent.length caps) := by rw [ho.out, ← es]; exact (T.p.blk.cell _).trans (rCells_sent _ _ x.drill)
      obtain ⟨S, hS⟩ : ∃ S : Nat → World → Prop, S = fun n w' => if n = 0 then Blk w' nb 68 #[.int .i64 k.target, .int .i64 k.level, .int .i64 k.item, .int .i64 k.chance.least, .int .i64 k.chance.most, .int .i64 k.chance.all] ∧ Blk w' xb 36 #[.int .i64 x.kind, .int .i64 x.tick, .bool x.drill, .int .i64 x.a, .int .i64 x.b, .bool x.yes, .int .i64 x.chance.least, .int .i64 x.chance.most, .int .i64 x.chance.all] ∧ w'.cell? ⟨hb, o + 3, none⟩ = some (.slice As (h.led x.drill).sent.length caps) else True := ⟨_, rfl⟩
      have hS0 : ∀ w', S 0 w' ↔ (Blk w' nb 68 #[.int .i64 k.target, .int .i64 k.level, .int .i64 k.item, .int .i64 k.chance.least, .int .i64 k.chance.most, .int .i64 k.chance.all] ∧ Blk w' xb 36 #[.int .i64 x.kind, .int .i64 x.tick, .bool x.drill, .int .i64 x.a, .int .i64 x.b, .bool x.yes, .int .i64 x.chance.least, .int .i64 x.chance.most, .int .i64 x.chance.all] ∧ w'.cell? ⟨hb, o + 3, none⟩ = some (.slice As (h.led x.drill).sent.length caps)) := fun w' => by rw [hS]; exact Iff.rfl
      have hS1 : ∀ w', S 1 w' ↔ (True) := fun w' => by rw [hS]; exact Iff.rfl
      clear hS
      have cn := fun (q : Ev (S 0)) i => ((hS0 _).1 q.h).1.cell i
      have cx := fun (q : Ev (S 0)) i => ((hS0 _).1 q.h).2.1.cell i
      have cg := fun (q : Ev (S 0)) => ((hS0 _).1 q.h).2.2
      have hSB : B ≤ w6.drew.heap.size := by have := T.p.low; have := T.p.lt; omega
      have hevT := ev_true
      refine wp_region_ord S [(0, 0), (1, 0), (2, 0), (3, 0), (4, 1), (5, 0), (6, 1), (7, 0), (8, 1), (9, 0), (10, 1), (11, 0), (12, 1), (13, 0), (14, 0), (15, 0), (16, 2), (17, 2), (18, 0), (19, 0), (20, 3)] [20] (by kernel_rfl) (by kernel_rfl) ((hS0 _).2 ⟨NB.blk, T.x.blk, cs⟩) ?_
      intro _hev
      iterate 16 (first | (refine wpOrd_v rfl rfl ?_; intro K hK; go_big_quiet_op; go_big_quiet_on) | (refine wpOrd_q rfl rfl ?_; intro K hK; go_big_quiet_op; go_big_quiet_on) | refine wpOrd_s (by decide) rfl rfl ?_)
      refine wpOrd_l rfl rfl ?_; intro K hK
      go_step
      obtain ⟨na, hna⟩ : ∃ q : Alarm, q = ⟨x.tick, x.a, k.level, decide (k.level < bL)⟩ := ⟨_, rfl⟩
      have X := Blk.new w6.drew 106 (encAlarm na).toArray
      have KX := Kp.new w6.drew (.cells (encAlarm na).toArray 106)
      rw [show (World.alloc w6 (.cells #[.int .i64 x.tick, .int .i64 x.a, .int .i64 k.level, .bool (decide (k.level < bL))] 106)).drew = w6.drew.alloc (.cells (encAlarm na).toArray 106) by rw [hna]; rfl]
      obtain ⟨sb, hsb⟩ : ∃ q, q = w6.heap.size := ⟨_, rfl⟩
      rw [← hsb]
      replace X : Blk (w6.drew.alloc (.cells (encAlarm na).toArray 106)) sb _ _ := hsb ▸ X
      generalize w6.drew.alloc (.cells (encAlarm na).toArray 106) = w7 at X KX ⊢
      replace hsb := Lib.hid hsb
      replace hna := Lib.hid hna
      replace NB := NB.kpN KX
      replace T := T.kpN KX
      replace own := own.kpN KX
      replace cs := KX.cellN cs
      replace hSB := Nat.le_trans hSB KX.size
      clear KX
      refine hK _ _ ((hS0 _).2 ⟨NB.blk, T.x.blk, cs⟩) ?_
      clear hK K
      refine wpOrd_l rfl rfl ?_; intro K hK
      refine wp_append_own_at (.tmp 63) (.tmp 75) 39 (by rfl) B 106 i0 _ 4 32 Tryz.underlying39 hi0 hz0 hz1 hz2 (by rfl) (by omega) (.slice As (h.led x.drill).sent.length caps) (h.led x.drill).sent.length ((h.led x.drill).sent.flatMap encAlarm) (by rfl) own ⟨sb, 0, none⟩ 1 1 (encAlarm na) (by rfl) (by rfl) (fun j u hj => by rw [Addr.add_lit, Nat.zero_add, X.cell]; simpa using hj) (one_alarm na) (maxLen_of (by omega)) (by omega) hSB ?_
      intro u8 w8 hown8 gu au
      obtain ⟨g8, cap8, rfl⟩ := ownsRow_succ hown8
      have st := T.p.sentStep (d := x.drill) ((h.led x.drill).sent ++ [na]) _ (by rw [es]; exact gu) (by unfold Own; rw [List.length_append, List.flatMap_append]; simpa using hown8)
        (by rw [es]; rcases au with h1 | h1
            · exact .inl h1
            · right; intro b hb'; rw [h1] at hb'; injection hb' with hb'; omega)
      rw [← ho.out, put_put, put_led] at st
      have e0 : ({ items := (h.led x.drill).items, facts := withK k (h.led x.drill).facts, motions := (h.led x.drill).motions, sent := (h.led x.drill).sent ++ [na] } : Ledger) = mixL c (h.led x.drill) x k 0 := by
        unfold mixL sendA; rw [mixM_zero, ← hbL.out, if_neg (Ne.symm q), hna.out]
      have e1 : h.put x.drill { ({ h.led x.drill with facts := withK k (h.led x.drill).facts } : Ledger) with sent := (h.led x.drill).sent ++ [na] } = h.put x.drill (mixL c (h.led x.drill) x k 0) := by rw [← e0]
      rw [e1] at st
      have st2 := st
      have T3 := T.step st2
      have NB3 := NB.fr st2.2
      have B8 := (gu.block hb T.p.lt (fun e => T.p.rows.hb (.sent x.drill) hb (by rw [rowOf_v, es]; exact e.symm) rfl)).trans T.p.blk
      have N8 := (gu.block nb NB.blk.lt (fun e => NB.apart.2 (.sent x.drill) (by rw [es]; exact e.symm))).trans NB.blk
      have X8 := (gu.block xb T.x.blk.lt (fun e => T.x.apart.2 (.sent x.drill) (by rw [es]; exact e.symm))).trans T.x.blk
      have c8 : w8.cell? ⟨hb, o + 3, none⟩ = some (.slice As (h.led x.drill).sent.length caps) := by rw [ho.out, ← es]; exact (Blk.cell B8 _).trans (rCells_sent _ _ x.drill)
      have f8 := Blk.frozen B8 (o + 3)
      refine hK _ _ ((hS0 _).2 ⟨N8, X8, c8⟩) ?_
      try simp only [Act.put, List.setIfInBounds_toArray, List.set_cons_zero, List.set_cons_succ]
      clear hK K
      iterate 2 (first | (refine wpOrd_v rfl rfl ?_; intro K hK; go_big_quiet_op; go_big_quiet_on) | (refine wpOrd_q rfl rfl ?_; intro K hK; go_big_quiet_op; go_big_quiet_on) | refine wpOrd_s (by decide) rfl rfl ?_)
      refine wpOrd_a rfl rfl ?_; intro K hK
      go_step
      refine hK _ _ ((hS1 _).2 trivial) ?_
      clear hK K
      change wpOrd _ _ _ _ _ 1 _ _
      refine wpOrd_nil ?_
      clear hevT _hev
      clear hS0 hS1 S cn cx cg
      replace T3 := Lib.hid T3
      replace NB3 := Lib.hid NB3
      go_wp2_with fail
      go_meet
      case rel => exact ⟨_, T3.out, NB3.out⟩
  case rest =>
  rename World => wc
  obtain ⟨v2, S2, NB2⟩ := hcut
  clear S NB
  have S := S2
  have NB := NB2
  clear S2 NB2
  have cx := fun i => S.x.blk.cell i
  have cn := fun i => NB.blk.cell i
  have hmo : ∀ i, ((h.put x.drill (mixL c (h.led x.drill) x k i)).led x.drill).motions = mixM c k i (h.led x.drill).motions := fun i => by rw [put_led]; rfl
  obtain ⟨A3, cap3, hv3, hA3⟩ := S.p.motForm x.drill
  rw [hmo, mixM_len] at hv3 hA3
  have hml : (h.led x.drill).motions.length ≤ 64 := (hk.out.led x.drill).mlen
  obtain ⟨nm, hnm⟩ : ∃ q, q = (h.led x.drill).motions.length := ⟨_, rfl⟩
  rw [← hnm] at hv3 hA3 hml
  have c3 : wc.cell? ⟨hb, o + 2, none⟩ = some (.slice A3 nm cap3) := by rw [ho.out, ← hv3]; exact (S.p.blk.cell _).trans (rCells_mot _ _ _)
  replace hv3 := Lib.hid hv3
  replace hnm := Lib.hid hnm
  replace hA3 := Lib.hid hA3
  replace hmo := Lib.hid hmo
  go_wp2_with fail
  go_loopw [11] (fun u wr => RFactAt B hb cb xb V c v v2 h x k nb nm w u wr) (fun u _ => nm - (intOf u).toNat)
  case atStart => exact ⟨0, rfl, Nat.zero_le _, S, NB⟩
  case round =>
    obtain ⟨i, rfl, hi, SR, NR⟩ := hrel
    clear S NB cx cn c3
    have S := SR
    have NB := NR
    clear SR NR
    have cx := fun i => S.x.blk.cell i
    have cn := fun i => NB.blk.cell i
    by_cases h7 : i < nm
    · obtain ⟨g3, rfl⟩ := hA3.out (by omega)
      have hi' : (i : Int) < (nm : Int) := by omega
      have hii : i < ((h.put x.drill (mixL c (h.led x.drill) x k i)).led x.drill).motions.length := by rw [hmo.out, mixM_len, ← hnm.out]; exact h7
      have hil : i < (h.led x.drill).motions.length := by rw [← hnm.out]; exact h7
      have hmi : ((h.put x.drill (mixL c (h.led x.drill) x k i)).led x.drill).motions[i] = (h.led x.drill).motions[i] := by
        have : ∀ (l : List Motion) (e : l = mixM c k i (h.led x.drill).motions) (hl : i < l.length), l[i] = (h.led x.drill).motions[i] := fun l e hl => by subst e; exact mixM_at c k i _ hil
        exact this _ (hmo.out i) hii
      obtain ⟨m, hm⟩ : ∃ q, q = (h.led x.drill).motions[i] := ⟨_, rfl⟩
      rw [← hm] at hmi
      have mA : ∀ W, GS B hb cb xb V c v v2 (h.put x.drill (mixL c (h.led x.drill) x k i)) x w W → (∀ j u, (encMot (v2 (.voted x.drill i)) m)[j]? = some u → W.cell? ⟨g3, i * 8 + j, none⟩ = some u) ∧ (∀ j, W.frozen? ⟨g3, j, none⟩ = false) ∧ g3 < W.heap.size ∧ g3 ≠ hb ∧ B ≤ g3 := fun W s => by
        have := s.p.motAt hv3.out i hii
        rwa [hmi] at this
      have c3 : wr.cell? ⟨hb, o + 2, none⟩ = some (.slice (some ⟨g3, 0, none⟩) nm cap3) := by rw [ho.out, ← hv3.out]; exact (S.p.blk.cell _).trans (rCells_mot _ _ _)
      replace hm := Lib.hid hm
      replace hmi := Lib.hid hmi
      replace mA := Lib.hid mA
      replace hi := Lib.hid hi
      replace h7 := Lib.hid h7
      go_wp2_with fail
      go_cut [13] (fun v14 wx => RAtLaw B hb cb xb V c v v2 h x k i nb m w v14 wx)
      case first =>
        clear cx cn c3
        replace S := S.drew
        replace NB := NB.kpN (Kp.refl _ _ _).drew
        obtain ⟨S0, hS⟩ : ∃ S0 : World → Prop, S0 = fun w' => Blk w' cb 28 #[.slice V.am c.members.length V.cm, .slice V.al c.laws.length V.cl, .slice V.av c.levels.length V.cv] ∧ w'.cell? ⟨g3, i * 8 + 1, none⟩ = some (.int .i64 m.act) := ⟨_, rfl⟩
        have hS0 : ∀ w', S0 w' ↔ (Blk w' cb 28 #[.slice V.am c.members.length V.cm, .slice V.al c.laws.length V.cl, .slice V.av c.levels.length V.cv] ∧ w'.cell? ⟨g3, i * 8 + 1, none⟩ = some (.int .i64 m.act)) := fun w' => by rw [hS]
        clear hS
        have ca := fun (q : Ev S0) => ((hS0 _).1 q.h).2
        have cc := fun (q : Ev S0) i => ((hS0 _).1 q.h).1.cell i
        have hevT := ev_true
        refine wp_region_tr S0 (.st 0 1 (.st 1 0 (.st 2 0 (.st 3 0 (.st 4 1 (.b2 5 (.st 6 0 (.st 7 0 (.st 8 0 (.st 9 2 (.st 10 2 (.st 11 0 .nil)))))) 9 (.st 5 2 (.st 6 0 (.st 7 0 (.st 8 0 (.st 10 2 (.st 11 0 .nil)))))))))))) (by kernel_rfl) (by kernel_rfl) ((hS0 _).2 ⟨S.cl.blk, (mA.out _ S).1 1 _ rfl⟩) ?_
        intro _hev
        iterate 5 (first | (refine wpTr_v rfl rfl ?_; intro K hK; go_big_quiet_op; go_big_quiet_on) | (refine wpTr_q rfl rfl ?_; intro K hK; go_big_quiet_op; go_big_quiet_on) | refine wpTr_s rfl rfl ?_)
        refine wpTr_b2 ?_ ?_
        · refine wpOne_l rfl rfl ?_; intro K hK
          go_step
          refine (ref_lawOf_any m.act B V c _ S.ca).mono ?_
          rintro e w5 ⟨rfl, k5⟩
          replace S := S.kpN k5
          replace NB := NB.kpN k5
          try (replace LB := LB.kpN k5)
          refine hK _ _ ((hS0 _).2 ⟨S.cl.blk, (mA.out _ S).1 1 _ rfl⟩) ?_
          clear hK K k5
          iterate 3 (first | (refine wpTr_v rfl rfl ?_; intro K hK; go_big_quiet_op; go_big_quiet_on) | (refine wpTr_q rfl rfl ?_; intro K hK; go_big_quiet_op; go_big_quiet_on) | refine wpTr_s rfl rfl ?_)
          refine wpTr_l rfl rfl ?_; intro K hK
          obtain ⟨lb, wq, hwq, hlb, S2, LB, hl0, hlc, hlx, hBl⟩ := S.fresh 101 #[.int .i64 0, .int .i64 0, .int .i64 0, .int .i64 0, .int .i64 0]
          have kq := hwq ▸ Kp.new _ _
          have hnl : nb ≠ lb := by have := NB.blk.lt; omega
          replace NB := NB.kpN kq
          clear S kq
          have S := S2
          clear S2
          go_step
          first | rw [← hwq] | rw [show (World.alloc w5 (.cells #[.int .i64 0, .int .i64 0, .int .i64 0, .int .i64 0, .int .i64 0] 101)).drew = wq from hwq.symm] | rw [show (World.alloc wr (.cells #[.int .i64 0, .int .i64 0, .int .i64 0, .int .i64 0, .int .i64 0] 101)).drew = wq from hwq.symm]
          first | rw [← hlb] | rw [← show lb = wr.heap.size from hlb]
          replace hlb := Lib.hid hlb
          refine hK _ _ ((hS0 _).2 ⟨S.cl.blk, (mA.out _ S).1 1 _ rfl⟩) ?_
          clear hK K hwq
          refine wpTr_l rfl rfl ?_; intro K hK
          have cL := fun i => LB.blk.cell i
          have fL := fun i => LB.blk.frozen i
          go_step
          have S2 := S.other (setL0_grown _ lb (lawD c m.act)) LB.apart hl0 hlc hlx hBl
          have LB2 : Lcl hb v2 _ lb _ _ := ⟨Blk.setL0 LB.blk (lawD c m.act), LB.apart⟩
          have NB2 := NB.other (setL0_grown _ lb (lawD c m.act)) hnl
          clear cL fL
          change K _ (setL0 _ lb (lawD c m.act))
          generalize setL0 _ lb (lawD c m.act) = w7 at S2 NB2 LB2 ⊢
          refine hK _ _ ((hS0 _).2 ⟨S2.cl.blk, (mA.out _ S2).1 1 _ rfl⟩) ?_
          clear hK K
          iterate 1 (first | (refine wpTr_v rfl rfl ?_; intro K hK; go_big_quiet_op; go_big_quiet_on) | (refine wpTr_q rfl rfl ?_; intro K hK; go_big_quiet_op; go_big_quiet_on) | refine wpTr_s rfl rfl ?_)
          refine wpTr_nil ?_
          clear hevT _hev
          go_wp2_with fail
          go_meet
          case rel => exact ⟨lb, rfl, S2, NB2, LB2, hnl⟩
        · refine wpOne_l rfl rfl ?_; intro K hK
          obtain ⟨lb, wq, hwq, hlb, S2, LB, hl0, hlc, hlx, hBl⟩ := S.fresh 101 #[.int .i64 0, .int .i64 0, .int .i64 0, .int .i64 0, .int .i64 0]
          have kq := hwq ▸ Kp.new _ _
          have hnl : nb ≠ lb := by have := NB.blk.lt; omega
          replace NB := NB.kpN kq
          clear S kq
          have S := S2
          clear S2
          go_step
          first | rw [← hwq] | rw [show (World.alloc w5 (.cells #[.int .i64 0, .int .i64 0, .int .i64 0, .int .i64 0, .int .i64 0] 101)).drew = wq from hwq.symm] | rw [show (World.alloc wr (.cells #[.int .i64 0, .int .i64 0, .int .i64 0, .int .i64 0, .int .i64 0] 101)).drew = wq from hwq.symm]
          first | rw [← hlb] | rw [← show lb = wr.heap.size from hlb]
          replace hlb := Lib.hid hlb
          refine hK _ _ ((hS0 _).2 ⟨S.cl.blk, (mA.out _ S).1 1 _ rfl⟩) ?_
          clear hK K hwq
          refine wpTr_l rfl rfl ?_; intro K hK
          go_step
          refine (ref_lawOf_any m.act B V c _ S.ca).mono ?_
          rintro e w5 ⟨rfl, k5⟩
          replace S := S.kpN k5
          replace NB := NB.kpN k5
          try (replace LB := LB.kpN k5)
          refine hK _ _ ((hS0 _).2 ⟨S.cl.blk, (mA.out _ S).1 1 _ rfl⟩) ?_
          clear hK K k5
          iterate 3 (first | (refine wpTr_v rfl rfl ?_; intro K hK; go_big_quiet_op; go_big_quiet_on) | (refine wpTr_q rfl rfl ?_; intro K hK; go_big_quiet_op; go_big_quiet_on) | refine wpTr_s rfl rfl ?_)
          refine wpTr_l rfl rfl ?_; intro K hK
          have cL := fun i => LB.blk.cell i
          have fL := fun i => LB.blk.frozen i
          go_step
          have S2 := S.other (setL0_grown _ lb (lawD c m.act)) LB.apart hl0 hlc hlx hBl
          have LB2 : Lcl hb v2 _ lb _ _ := ⟨Blk.setL0 LB.blk (lawD c m.act), LB.apart⟩
          have NB2 := NB.other (setL0_grown _ lb (lawD c m.act)) hnl
          clear cL fL
          change K _ (setL0 _ lb (lawD c m.act))
          generalize setL0 _ lb (lawD c m.act) = w7 at S2 NB2 LB2 ⊢
          refine hK _ _ ((hS0 _).2 ⟨S2.cl.blk, (mA.out _ S2).1 1 _ rfl⟩) ?_
          clear hK K
          iterate 1 (first | (refine wpTr_v rfl rfl ?_; intro K hK; go_big_quiet_op; go_big_quiet_on) | (refine wpTr_q rfl rfl ?_; intro K hK; go_big_quiet_op; go_big_quiet_on) | refine wpTr_s rfl rfl ?_)
          refine wpTr_nil ?_
          clear hevT _hev
          go_wp2_with fail
          go_meet
          case rel => exact ⟨lb, rfl, S2, NB2, LB2, hnl⟩
      case rest =>
      clear S NB cx cn c3
      rename World => w7
      obtain ⟨lb, rfl, S, NB, LB, hnl⟩ := hcut
      have cx := fun i => S.x.blk.cell i
      have cn := fun i => NB.blk.cell i
      have cl := fun i => LB.blk.cell i
      have m0 : w7.cell? ⟨g3, i * 8, none⟩ = some (.int .i64 m.target) := (mA.out _ S).1 0 _ rfl
      have m3 : w7.cell? ⟨g3, i * 8 + 3, none⟩ = some (.int .i64 m.state) := (mA.out _ S).1 3 _ rfl
      have hkt : k.target = x.a := by rw [hkk.out]; rfl
      replace hkt := Lib.hid hkt
      have skip : voidM c k m = m → ∀ W, Kp w7.heap.size none w7 W → RFactAt B hb cb xb V c v v2 h x k nb nm w (.int .i64 ((i : Int) + 1)) W := fun e W kW => by
        refine ⟨i + 1, rfl, h7.out, ?_, NB.kpN kW⟩
        rw [mixL_skip c (h.led x.drill) x k i hil (by rw [← hm.out]; exact e)]
        exact S.kpN kW
      replace skip := Lib.hid skip
      by_cases q1 : m.state = 1
      case neg =>
        have e := voidM_not c k m (fun q => q1 q.1)
        replace e := Lib.hid e
        go_wp2_with fail
        go_quiet (fail)
        go_wp2_with fail
        go_roundw
        case rel => exact skip.out e.out _ ((Kp.refl _ _ _).drewN _)
        case measure => have := h7.out; simp [intOf]; omega
      by_cases q2 : m.target = x.a
      case neg =>
        have e := voidM_not c k m (fun q => q2 (q.2.1.trans hkt.out))
        replace e := Lib.hid e
        go_wp2_with fail
        go_quiet (fail)
        go_wp2_with fail
        go_roundw
        case rel => exact skip.out e.out _ ((Kp.refl _ _ _).drewN _)
        case measure => have := h7.out; simp [intOf]; omega
      by_cases q3 : k.level < (lawD c m.act).level
      case neg =>
        have e := voidM_not c k m (fun q => q3 q.2.2)
        replace e := Lib.hid e
        go_wp2_with fail
        go_quiet (fail)
        go_wp2_with fail
        go_roundw
        case rel => exact skip.out e.out _ ((Kp.refl _ _ _).drewN _)
        case measure => have := h7.out; simp [intOf]; omega
      have e := voidM_yes c k m ⟨q1, q2.trans hkt.out.symm, q3⟩
      replace e := Lib.hid e
      go_wp2_with fail
      go_quiet (fail)
      go_wp2_with fail
      clear skip cx cn cl m0 m3
      replace S := S.kpN ((Kp.refl _ _ _).drewN nq)
      replace NB := NB.kpN ((Kp.refl _ _ _).drewN nq)
      generalize w7.drewN nq = w8 at S NB ⊢
      have hng : nb ≠ g3 := fun e => NB.apart.2 (.motions x.drill) (by rw [hv3.out, ← e]; rfl)
      have m3 : w8.cell? ⟨g3, i * 8 + 3, none⟩ = some (.int .i64 m.state) := (mA.out _ S).1 3 _ rfl
      have m7 : w8.cell? ⟨g3, i * 8 + 7, none⟩ = some (.int .i64 m.fact) := (mA.out _ S).1 7 _ rfl
      have mf : ∀ j, w8.frozen? ⟨g3, j, none⟩ = false := (mA.out _ S).2.1
      have st := S.p.motEnd hv3.out i hii 4 k.item
      rw [put_put, set_end (mixL c (h.led x.drill) x k i) _ (put_led _ _ _) i hii m hmi.out 4 k.item] at st
      rw [← e.out, show voidM c k m = voidM c k (h.led x.drill).motions[i] by rw [hm.out], ← mixL_succ c (h.led x.drill) x k i hil] at st
      have N9 := ((NB.other (grown_set _ g3 (i * 8 + 3) (.int .i64 4)) hng).other (grown_set _ g3 (i * 8 + 7) (.int .i64 k.item)) hng).kpN (Kp.refl _ _ _).drew
      have S9 := (S.step st).drew
      have T := S
      clear S
      obtain ⟨S, hS⟩ : ∃ S : Nat → World → Prop, S = fun n w' => if n = 0 then Blk w' nb 68 #[.int .i64 k.target, .int .i64 k.level, .int .i64 k.item, .int .i64 k.chance.least, .int .i64 k.chance.most, .int .i64 k.chance.all] else True := ⟨_, rfl⟩
      have hS0 : ∀ w', S 0 w' ↔ (Blk w' nb 68 #[.int .i64 k.target, .int .i64 k.level, .int .i64 k.item, .int .i64 k.chance.least, .int .i64 k.chance.most, .int .i64 k.chance.all]) := fun w' => by rw [hS]; exact Iff.rfl
      have hS1 : ∀ w', S 1 w' ↔ (True) := fun w' => by rw [hS]; exact Iff.rfl
      clear hS
      have cn := fun (q : Ev (S 0)) i => ((hS0 _).1 q.h).cell i
      have hevT := ev_true
      refine wp_region_ord S [(0, 0), (1, 0), (2, 0), (3, 1), (4, 0), (5, 0), (6, 2), (7, 0), (8, 0), (9, 2)] [] (by kernel_rfl) (by kernel_rfl) ((hS0 _).2 NB.blk) ?_
      intro _hev
      iterate 6 (first | (refine wpOrd_v rfl rfl ?_; intro K hK; go_big_quiet_op; go_big_quiet_on) | (refine wpOrd_q rfl rfl ?_; intro K hK; go_big_quiet_op; go_big_quiet_on) | refine wpOrd_s (by decide) rfl rfl ?_)
      refine wpOrd_l rfl rfl ?_; intro K hK
      go_step
      refine hK _ _ ((hS0 _).2 (NB.blk.far hng _)) ?_
      clear hK K
      iterate 2 (first | (refine wpOrd_v rfl rfl ?_; intro K hK; go_big_quiet_op; go_big_quiet_on) | (refine wpOrd_q rfl rfl ?_; intro K hK; go_big_quiet_op; go_big_quiet_on) | refine wpOrd_s (by decide) rfl rfl ?_)
      refine wpOrd_l rfl rfl ?_; intro K hK
      go_step
      refine hK _ _ ((hS0 _).2 ((NB.blk.far hng _).far hng _)) ?_
      clear hK K
      refine wpOrd_nil ?_
      clear hevT _hev
      clear hS0 hS1 S cn m3 m7 mf
      go_wp2_with fail
      go_roundw
      case rel => exact ⟨i + 1, rfl, h7.out, S9, N9⟩
      case measure => have := h7.out; simp [intOf]; omega
    · have he : i = nm := by omega
      have hi' : ¬ (i : Int) < (nm : Int) := by omega
      have fin : RDPost B hb v h x E (factL c (h.led x.drill) x) w (.returned (.int .i64 0)) wr := by
        refine RDPost.fin (v' := v2) (cb := cb) (xb := xb) (V := V) (c := c) ?_ hE2.out
        rw [← mixL_all, ← hkk.out, ← hnm.out, ← he]
        exact S
      have c3 : wr.cell? ⟨hb, o + 2, none⟩ = some (.slice A3 nm cap3) := by rw [ho.out, ← hv3.out]; exact (S.p.blk.cell _).trans (rCells_mot _ _ _)
      replace fin := Lib.hid fin
      replace he := Lib.hid he
      clear h7 hi
      go_wp2
      go_ret
      exact fin.out
end Go.Proofs.YtogpgnljomchcaaGreat
namespace Go.Proofs.YtogpgnljomchcaaGreat
open Go.RowKit

def RAtLaw0 (B hb cb xb : Nat) (V : CV) (c : Council) (v0 v : Ky → Value) (h : House) (x : CItem) (act : Int) (w : World) (v7 v8 : Value) (wx : World) : Prop :=
  ∃ lb, v7 = .pointer (some ⟨lb, 0, none⟩) ∧ v8 = .bool (lawOf c act).isSome ∧ GS B hb cb xb V c v0 v h x w wx ∧ Lcl hb v wx lb 101 #[.int .i64 (lawD c act).act, .int .i64 (lawD c act).level, .int .i64 (lawD c act).window, .int .i64 (lawD c act).quorum, .int .i64 (lawD c act).share]
def RAtOf (B hb cb xb : Nat) (V : CV) (c : Council) (v0 v : Ky → Value) (h : House) (x : CItem) (d : Bool) (t : Int) (w : World) (v7 v8 : Value) (wx : World) : Prop :=
  ∃ kb, v7 = .pointer (some ⟨kb, 0, none⟩) ∧ v8 = .bool (knownOf (h.led d) t).isSome ∧ GS B hb cb xb V c v0 v h x w wx ∧ Lcl hb v wx kb 68 #[.int .i64 (knD (h.led d).facts t).target, .int .i64 (knD (h.led d).facts t).level, .int .i64 (knD (h.led d).facts t).item, .int .i64 (knD (h.led d).facts t).chance.least, .int .i64 (knD (h.led d).facts t).chance.most, .int .i64 (knD (h.led d).facts t).chance.all]
def RMoveAt (B hb cb xb : Nat) (V : CV) (c : Council) (v : Ky → Value) (h : House) (x : CItem) (lb kb : Nat) (R : Bool) (nm : Nat) (w : World) (u : Value) (wr : World) : Prop :=
  ∃ i : Nat, u = .int .i64 i ∧ i ≤ nm ∧ ((h.led x.drill).motions.drop i).any (openSame x.a x.b) = R ∧ GS B hb cb xb V c v v h x w wr
theorem any_drop {α : Type} (p : α → Bool) (l : List α) (i : Nat) (hi : i < l.length) : (l.drop i).any p = (p l[i] || (l.drop (i + 1)).any p) := by
  rw [List.drop_eq_getElem_cons hi, List.any_cons]
/-- the four cells of a ledger, as slices -/
theorem RH.led4 {B hb : Nat} {w : World} {v : Ky → Value} {h : House} (p : RH B hb w v h) (d : Bool) : ∃ Af cf Am cm As cs, v (.facts d) = .slice Af (h.led d).facts.length cf ∧ v (.motions d) = .slice Am (h.led d).motions.length cm ∧ v (.sent d) = .slice As (h.led d).sent.length cs := by
  obtain ⟨Af, cf, e1, -⟩ := (p.rows.facts d).rd0 (fun _ => rfl)
  obtain ⟨Am, cm, e2, -⟩ := (p.rows.motions d).rd0 (fun _ => rfl)
  obtain ⟨As, cs, e3, -⟩ := (p.rows.sent d).rd0 (fun _ => rfl)
  rw [zipV_len] at e2
  exact ⟨Af, cf, Am, cm, As, cs, e1, e2, e3⟩
theorem RH.factsRd {B hb : Nat} {w : World} {v : Ky → Value} {h : House} (p : RH B hb w v h) (d : Bool) {A : Option Addr} {n cap : Nat} (e : v (.facts d) = .slice A n cap) : Rd none w 6 encKnown A (h.led d).facts.length (h.led d).facts := by
  obtain ⟨A', cap', e', rd', -⟩ := (p.rows.facts d).rd0 (fun _ => rfl)
  rw [e] at e'
  simp only [Value.slice.injEq] at e'
  obtain ⟨rfl, -, rfl⟩ := e'
  exact rd'
set_option maxRecDepth 20000 in
set_option maxHeartbeats 40000000 in
theorem ref_move_any (B hb n : Nat) (V : CV) (c : Council) (v : Ky → Value) (h : House) (x : CItem) (w : World) (p : RH B hb w v h) (hC : CAt B w V c) (hk : HouseOk c n h) (hn : n ≤ 4000) :
    Calls Tryz.prog 75 #[.agg #[.slice V.am c.members.length V.cm, .slice V.al c.laws.length V.cl, .slice V.av c.levels.length V.cv], .pointer (some ⟨hb, rD x.drill, none⟩), .agg #[.int .i64 x.kind, .int .i64 x.tick, .bool x.drill, .int .i64 x.a, .int .i64 x.b, .bool x.yes, .int .i64 x.chance.least, .int .i64 x.chance.most, .int .i64 x.chance.all]] w (RDPost B hb v h x (moveE c (h.led x.drill) x) (moveL (h.led x.drill) x) w) := by
  have S := GS.start p hC x
  have hhw : hb < w.heap.size := p.lt
  have hBw : B ≤ w.heap.size := by have := p.low; omega
  obtain ⟨cb, hcb⟩ : ∃ q, q = w.heap.size := ⟨_, rfl⟩
  obtain ⟨xb, hxb⟩ : ∃ q, q = w.heap.size + 1 := ⟨_, rfl⟩
  obtain ⟨E, hE⟩ : ∃ q, q = moveE c (h.led x.drill) x := ⟨_, rfl⟩
  rw [← hE]
  replace hE := Lib.hid hE
  obtain ⟨o, ho⟩ : ∃ q, q = rD x.drill := ⟨_, rfl⟩
  rw [← ho]
  replace ho := Lib.hid ho
  replace hk := Lib.hid hk
  go_enter Tryz.func75, Tryz.ntmps75
  go_upto_region 1 with (fail)
  rw [← hxb, ← hcb] at S
  rw [← hxb, ← hcb]
  have hcw : w.heap.size ≤ cb := by omega
  have hxw : w.heap.size ≤ xb := by omega
  have hcx : cb ≠ xb := by omega
  have hhc : hb ≠ cb := by omega
  have hhx : hb ≠ xb := by omega
  replace hxb := Lib.hid hxb
  replace hcb := Lib.hid hcb
  generalize (w.alloc (.cells #[.slice V.am c.members.length V.cm, .slice V.al c.laws.length V.cl, .slice V.av c.levels.length V.cv] 28)).alloc (.cells #[.int .i64 x.kind, .int .i64 x.tick, .bool x.drill, .int .i64 x.a, .int .i64 x.b, .bool x.yes, .int .i64 x.chance.least, .int .i64 x.chance.most, .int .i64 x.chance.all] 36) = w1 at S ⊢
  have cx := fun i => S.x.blk.cell i
  have cc := fun i => S.cl.blk.cell i
  go_wp2_with fail
  refine (ref_lawOf_any x.b B V c _ S.ca).mono ?_
  rintro e w2 ⟨rfl, k2⟩
  replace S := S.kpN k2
  clear k2 cx cc
  obtain ⟨D, hD⟩ : ∃ q, q = (lawOf c x.b).isSome := ⟨_, rfl⟩
  rw [← hD]
  replace hD := Lib.hid hD
  obtain ⟨lb, wq, hwq, hlb, S2, LB, hl0, hlc, hlx, hBl⟩ := S.fresh 101 #[.int .i64 (lawD c x.b).act, .int .i64 (lawD c x.b).level, .int .i64 (lawD c x.b).window, .int .i64 (lawD c x.b).quorum, .int .i64 (lawD c x.b).share]
  go_upto_region 2 with (fail)
  rw [← hwq, ← hlb]
  clear S hwq
  have S := S2
  clear S2
  replace hlb := Lib.hid hlb
  obtain ⟨Af, cf, Am, cm, As, cs, ef, em, es⟩ := S.p.led4 x.drill
  have hfl : (h.led x.drill).facts.length ≤ 4000 := by have := (hk.out.led x.drill).flen; omega
  have hcells : ∀ W, Blk W hb 43 (rCells v h) → W.cell? ⟨hb, o, none⟩ = some (.int .i64 (h.led x.drill).items) ∧ W.cell? ⟨hb, o + 1, none⟩ = some (.slice Af (h.led x.drill).facts.length cf) ∧ W.cell? ⟨hb, o + 2, none⟩ = some (.slice Am (h.led x.drill).motions.length cm) ∧ W.cell? ⟨hb, o + 3, none⟩ = some (.slice As (h.led x.drill).sent.length cs) := fun W b => by
    rw [ho.out, ← ef, ← em, ← es]
    exact ⟨(b.cell _).trans (rCells_items _ _ _), (b.cell _).trans (rCells_facts _ _ _), (b.cell _).trans (rCells_mot _ _ _), (b.cell _).trans (rCells_sent _ _ _)⟩
  replace hcells := Lib.hid hcells
  replace ef := Lib.hid ef
  replace em := Lib.hid em
  replace es := Lib.hid es
  go_cut [9, 10] (fun v9 v10 wx => RAtOf B hb cb xb V c v v h x x.drill x.a w v9 v10 wx ∧ Lcl hb v wx lb 101 #[.int .i64 (lawD c x.b).act, .int .i64 (lawD c x.b).level, .int .i64 (lawD c x.b).window, .int .i64 (lawD c x.b).quorum, .int .i64 (lawD c x.b).share])
  case first =>
    replace S := S.drew
    replace LB := LB.kpN (Kp.refl _ _ _).drew
    obtain ⟨S0, hS⟩ : ∃ S0 : World → Prop, S0 = fun w' => Blk w' xb 36 #[.int .i64 x.kind, .int .i64 x.tick, .bool x.drill, .int .i64 x.a, .int .i64 x.b, .bool x.yes, .int .i64 x.chance.least, .int .i64 x.chance.most, .int .i64 x.chance.all] ∧ Blk w' hb 43 (rCells v h) := ⟨_, rfl⟩
    have hS0 : ∀ w', S0 w' ↔ (Blk w' xb 36 #[.int .i64 x.kind, .int .i64 x.tick, .bool x.drill, .int .i64 x.a, .int .i64 x.b, .bool x.yes, .int .i64 x.chance.least, .int .i64 x.chance.most, .int .i64 x.chance.all] ∧ Blk w' hb 43 (rCells v h)) := fun w' => by rw [hS]
    clear hS
    have cx := fun (q : Ev S0) i => ((hS0 _).1 q.h).1.cell i
    have g0 := fun (q : Ev S0) => (hcells.out _ ((hS0 _).1 q.h).2).1
    have g1 := fun (q : Ev S0) => (hcells.out _ ((hS0 _).1 q.h).2).2.1
    have g2 := fun (q : Ev S0) => (hcells.out _ ((hS0 _).1 q.h).2).2.2.1
    have g3 := fun (q : Ev S0) => (hcells.out _ ((hS0 _).1 q.h).2).2.2.2
    have hevT := ev_true
    refine wp_region_tr S0 (.st 0 0 (.st 1 0 (.st 2 1 (.st 3 0 (.st 4 1 (.b2 5 (.st 6 0 (.st 7 0 (.st 8 0 (.st 9 2 (.st 10 2 (.st 11 0 .nil)))))) 9 (.st 5 2 (.st 6 0 (.st 7 0 (.st 8 0 (.st 10 2 (.st 11 0 .nil)))))))))))) (by kernel_rfl) (by kernel_rfl) ((hS0 _).2 ⟨S.x.blk, S.p.blk⟩) ?_
    intro _hev
    iterate 5 (first | (refine wpTr_v rfl rfl ?_; intro K hK; go_big_quiet_op; go_big_quiet_on) | (refine wpTr_q rfl rfl ?_; intro K hK; go_big_quiet_op; go_big_quiet_on) | refine wpTr_s rfl rfl ?_)
    refine wpTr_b2 ?_ ?_
    · refine wpOne_l rfl rfl ?_; intro K hK
      go_step
      refine (ref_Of_any x.a _ Af cf (h.led x.drill).facts Am _ cm As _ cs _ (S.p.factsRd x.drill ef.out) (by omega)).mono ?_
      rintro e w5 ⟨rfl, k5⟩
      replace S := S.kpN k5
      replace LB := LB.kpN k5
      try (replace NB := NB.kpN k5)
      refine hK _ _ ((hS0 _).2 ⟨S.x.blk, S.p.blk⟩) ?_
      clear hK K k5
      iterate 3 (first | (refine wpTr_v rfl rfl ?_; intro K hK; go_big_quiet_op; go_big_quiet_on) | (refine wpTr_q rfl rfl ?_; intro K hK; go_big_quiet_op; go_big_quiet_on) | refine wpTr_s rfl rfl ?_)
      refine wpTr_l rfl rfl ?_; intro K hK
      obtain ⟨nb, wz, hwz, hnb, S2, NB, hn0, hnc, hnx, hBn⟩ := S.fresh 68 #[.int .i64 0, .int .i64 0, .int .i64 0, .int .i64 0, .int .i64 0, .int .i64 0]
      have kq := hwz ▸ Kp.new _ _
      have hln : lb ≠ nb := by have := LB.blk.lt; omega
      replace LB := LB.kpN kq
      clear S kq
      have S := S2
      clear S2
      go_step
      first | rw [← hwz] | rw [show (World.alloc wq (.cells #[.int .i64 0, .int .i64 0, .int .i64 0, .int .i64 0, .int .i64 0, .int .i64 0] 68)).drew = wz from hwz.symm]
      first | rw [← hnb] | rw [← show nb = wq.heap.size from hnb]
      replace hnb := Lib.hid hnb
      refine hK _ _ ((hS0 _).2 ⟨S.x.blk, S.p.blk⟩) ?_
      clear hK K hwz
      refine wpTr_l rfl rfl ?_; intro K hK
      have cN := fun i => NB.blk.cell i
      have fN := fun i => NB.blk.frozen i
      go_step
      have S2 := S.other (setK0_grown _ nb (knD (h.led x.drill).facts x.a)) NB.apart hn0 hnc hnx hBn
      have NB2 : Lcl hb v _ nb _ _ := ⟨Blk.setK0 NB.blk (knD (h.led x.drill).facts x.a), NB.apart⟩
      have LB2 := LB.other (setK0_grown _ nb (knD (h.led x.drill).facts x.a)) hln
      clear cN fN
      change K _ (setK0 _ nb (knD (h.led x.drill).facts x.a))
      generalize setK0 _ nb (knD (h.led x.drill).facts x.a) = w7 at S2 NB2 LB2 ⊢
      refine hK _ _ ((hS0 _).2 ⟨S2.x.blk, S2.p.blk⟩) ?_
      clear hK K
      iterate 1 (first | (refine wpTr_v rfl rfl ?_; intro K hK; go_big_quiet_op; go_big_quiet_on) | (refine wpTr_q rfl rfl ?_; intro K hK; go_big_quiet_op; go_big_quiet_on) | refine wpTr_s rfl rfl ?_)
      refine wpTr_nil ?_
      clear hevT _hev
      go_wp2_with fail
      go_meet
      case rel => exact ⟨⟨nb, rfl, rfl, S2, NB2⟩, LB2⟩
    · refine wpOne_l rfl rfl ?_; intro K hK
      obtain ⟨nb, wz, hwz, hnb, S2, NB, hn0, hnc, hnx, hBn⟩ := S.fresh 68 #[.int .i64 0, .int .i64 0, .int .i64 0, .int .i64 0, .int .i64 0, .int .i64 0]
      have kq := hwz ▸ Kp.new _ _
      have hln : lb ≠ nb := by have := LB.blk.lt; omega
      replace LB := LB.kpN kq
      clear S kq
      have S := S2
      clear S2
      go_step
      first | rw [← hwz] | rw [show (World.alloc wq (.cells #[.int .i64 0, .int .i64 0, .int .i64 0, .int .i64 0, .int .i64 0, .int .i64 0] 68)).drew = wz from hwz.symm]
      first | rw [← hnb] | rw [← show nb = wq.heap.size from hnb]
      replace hnb := Lib.hid hnb
      refine hK _ _ ((hS0 _).2 ⟨S.x.blk, S.p.blk⟩) ?_
      clear hK K hwz
      refine wpTr_l rfl rfl ?_; intro K hK
      go_step
      refine (ref_Of_any x.a _ Af cf (h.led x.drill).facts Am _ cm As _ cs _ (S.p.factsRd x.drill ef.out) (by omega)).mono ?_
      rintro e w5 ⟨rfl, k5⟩
      replace S := S.kpN k5
      replace LB := LB.kpN k5
      try (replace NB := NB.kpN k5)
      refine hK _ _ ((hS0 _).2 ⟨S.x.blk, S.p.blk⟩) ?_
      clear hK K k5
      iterate 3 (first | (refine wpTr_v rfl rfl ?_; intro K hK; go_big_quiet_op; go_big_quiet_on) | (refine wpTr_q rfl rfl ?_; intro K hK; go_big_quiet_op; go_big_quiet_on) | refine wpTr_s rfl rfl ?_)
      refine wpTr_l rfl rfl ?_; intro K hK
      have cN := fun i => NB.blk.cell i
      have fN := fun i => NB.blk.frozen i
      go_step
      have S2 := S.other (setK0_grown _ nb (knD (h.led x.drill).facts x.a)) NB.apart hn0 hnc hnx hBn
      have NB2 : Lcl hb v _ nb _ _ := ⟨Blk.setK0 NB.blk (knD (h.led x.drill).facts x.a), NB.apart⟩
      have LB2 := LB.other (setK0_grown _ nb (knD (h.led x.drill).facts x.a)) hln
      clear cN fN
      change K _ (setK0 _ nb (knD (h.led x.drill).facts x.a))
      generalize setK0 _ nb (knD (h.led x.drill).facts x.a) = w7 at S2 NB2 LB2 ⊢
      refine hK _ _ ((hS0 _).2 ⟨S2.x.blk, S2.p.blk⟩) ?_
      clear hK K
      iterate 1 (first | (refine wpTr_v rfl rfl ?_; intro K hK; go_big_quiet_op; go_big_quiet_on) | (refine wpTr_q rfl rfl ?_; intro K hK; go_big_quiet_op; go_big_quiet_on) | refine wpTr_s rfl rfl ?_)
      refine wpTr_nil ?_
      clear hevT _hev
      go_wp2_with fail
      go_meet
      case rel => exact ⟨⟨nb, rfl, rfl, S2, NB2⟩, LB2⟩
  case rest =>
  clear S LB
  rename World => w4
  obtain ⟨⟨kb, rfl, rfl, S, KB⟩, LB⟩ := hcut
  obtain ⟨D2, hD2⟩ : ∃ q, q = (knownOf (h.led x.drill) x.a).isSome := ⟨_, rfl⟩
  rw [← hD2]
  replace hD2 := Lib.hid hD2
  cases D
  · have e1 := Lib.hid (show 7 = E by rw [hE.out]; exact (moveE_7 (.inl hD.out.symm)).symm)
    go_wp2
    go_ret
    exact RDPost.err S e1.out (by rw [← e1.out]; decide)
  cases D2
  · have e1 := Lib.hid (show 7 = E by
      rw [hE.out]
      refine (moveE_7 (.inr ?_)).symm
      have := hD2.out
      cases hq : knownOf (h.led x.drill) x.a with
      | none => rfl
      | some k => rw [hq] at this; simp at this)
    go_wp2
    go_ret
    exact RDPost.err S e1.out (by rw [← e1.out]; decide)
  obtain ⟨k, hkk⟩ : ∃ k, knownOf (h.led x.drill) x.a = some k := Option.isSome_iff_exists.1 hD2.out.symm
  have hkd : knD (h.led x.drill).facts x.a = k := by unfold knD; unfold knownOf at hkk; rw [hkk]; rfl
  rw [hkd] at KB
  have hE2 := Lib.hid (hE.out.trans (moveE_s hD.out.symm hkk))
  clear hkd hE
  replace hkk := Lib.hid hkk
  have cl := fun i => LB.blk.cell i
  have ck := fun i => KB.blk.cell i
  have cx := fun i => S.x.blk.cell i
  by_cases q1 : k.level < (lawD c x.b).level
  · have e1 := Lib.hid (show 10 = E by rw [hE2.out, if_pos q1])
    go_wp2
    go_ret
    exact RDPost.err S e1.out (by rw [← e1.out]; decide)
  replace hE2 := Lib.hid (hE2.out.trans (if_neg q1))
  have hml : (h.led x.drill).motions.length ≤ 64 := (hk.out.led x.drill).mlen
  obtain ⟨nm, hnm⟩ : ∃ q, q = (h.led x.drill).motions.length := ⟨_, rfl⟩
  rw [← hnm] at hml
  replace hnm := Lib.hid hnm
  go_wp2_with fail
  obtain ⟨RR, hRR⟩ : ∃ q, q = (h.led x.drill).motions.any (openSame x.a x.b) := ⟨_, rfl⟩
  rw [← hRR] at hE2
  replace hRR := Lib.hid hRR
  have hAm : 0 < nm → ∃ g, Am = some ⟨g, 0, none⟩ := fun h0 => by
    obtain ⟨A', cap', e', hA'⟩ := S.p.motForm x.drill
    rw [em.out] at e'
    simp only [Value.slice.injEq] at e'
    obtain ⟨rfl, -, rfl⟩ := e'
    exact hA' (by rw [← hnm.out]; exact h0)
  replace hAm := Lib.hid hAm
  go_loopw [11] (fun u wr => RMoveAt B hb cb xb V c v h x lb kb RR nm w u wr) (fun u _ => nm - (intOf u).toNat)
  case atStart => exact ⟨0, rfl, Nat.zero_le _, by rw [List.drop_zero]; exact hRR.out.symm, S⟩
  case round =>
    clear cl ck cx KB LB S q1
    obtain ⟨i, rfl, hi, hj, S⟩ := hrel
    have cx := fun i => S.x.blk.cell i
    have c3 := (hcells.out _ S.p.blk).2.2.1
    rw [← hnm.out] at c3
    by_cases h7 : i < nm
    · obtain ⟨g3, rfl⟩ := hAm.out (by omega)
      have hi' : (i : Int) < (nm : Int) := by omega
      have hil : i < (h.led x.drill).motions.length := by rw [← hnm.out]; exact h7
      rw [any_drop _ _ i hil] at hj
      have mA := (S.p.motAt em.out i hil).1
      obtain ⟨Av, lv, cv, ev⟩ := slice_of S.p.rows (.voted x.drill i)
      rw [ev] at mA
      generalize (h.led x.drill).motions[i] = m at mA hj
      have m0 : wr.cell? ⟨g3, i * 8, none⟩ = some (.int .i64 m.target) := mA 0 _ rfl
      have m1 := mA 1 _ rfl
      have m2 := mA 2 _ rfl
      have m3 := mA 3 _ rfl
      have m4 := mA 4 _ rfl
      have m5 := mA 5 _ rfl
      have m6 := mA 6 _ rfl
      have m7 := mA 7 _ rfl
      clear mA ev
      have S2 := S.kpN (Kp.new wr (.cells #[.int .i64 m.target, .int .i64 m.act, .int .i64 m.opened, .int .i64 m.state, .int .i64 m.yes, .int .i64 m.no, (.slice Av lv cv), .int .i64 m.fact] 52))
      have X := Blk.new wr 52 #[.int .i64 m.target, .int .i64 m.act, .int .i64 m.opened, .int .i64 m.state, .int .i64 m.yes, .int .i64 m.no, (.slice Av lv cv), .int .i64 m.fact]
      obtain ⟨yb, hyb⟩ : ∃ q, q = wr.heap.size := ⟨_, rfl⟩
      replace h7 := Lib.hid h7
      replace hi := Lib.hid hi
      clear S
      go_upto_region 11 with (fail)
      rw [← hyb] at X ⊢
      clear m0 m1 m2 m3 m4 m5 m6 m7 c3 cx hyb
      generalize wr.alloc (.cells #[.int .i64 m.target, .int .i64 m.act, .int .i64 m.opened, .int .i64 m.state, .int .i64 m.yes, .int .i64 m.no, (.slice Av lv cv), .int .i64 m.fact] 52) = w5 at S2 X ⊢
      have S := S2
      clear S2
      have cx := fun i => S.x.blk.cell i
      have cy := fun i => X.cell i
      by_cases q2 : m.state = 1
      case neg =>
        have e : openSame x.a x.b m = false := by unfold openSame; simp [q2]
        rw [e, Bool.false_or] at hj
        replace hj := Lib.hid hj
        clear e
        go_wp2
        go_roundw
        case rel => exact ⟨i + 1, rfl, h7.out, hj.out, S⟩
        case measure => have := h7.out; simp [intOf]; omega
      by_cases q3 : m.target = x.a
      case neg =>
        have e : openSame x.a x.b m = false := by unfold openSame; simp [q3]
        rw [e, Bool.false_or] at hj
        replace hj := Lib.hid hj
        clear e
        go_wp2
        go_roundw
        case rel => exact ⟨i + 1, rfl, h7.out, hj.out, S⟩
        case measure => have := h7.out; simp [intOf]; omega
      by_cases q4 : m.act = x.b
      case neg =>
        have e : openSame x.a x.b m = false := by unfold openSame; simp [q4]
        rw [e, Bool.false_or] at hj
        replace hj := Lib.hid hj
        clear e
        go_wp2
        go_roundw
        case rel => exact ⟨i + 1, rfl, h7.out, hj.out, S⟩
        case measure => have := h7.out; simp [intOf]; omega
      have e : openSame x.a x.b m = true := by unfold openSame; simp [q2, q3, q4]
      rw [e, Bool.true_or] at hj
      have e1 := Lib.hid (show 9 = E by rw [hE2.out, ← hj]; rfl)
      clear e hj
      go_wp2
      go_ret
      exact RDPost.err S e1.out (by rw [← e1.out]; decide)
    · have he : i = nm := by omega
      have hi' : ¬ (i : Int) < (nm : Int) := by omega
      rw [he, hnm.out, List.drop_length] at hj
      have hE3 := Lib.hid (show E = if 64 ≤ nm then 8 else 0 by rw [hE2.out, ← hj, hnm.out]; rfl)
      clear hE2 hj hi h7
      subst he
      by_cases q5 : 64 ≤ i
      · have e1 := Lib.hid (show 8 = E by rw [hE3.out, if_pos q5])
        have q6 : (64 : Int) ≤ (i : Int) := by omega
        go_wp2
        go_ret
        exact RDPost.err S e1.out (by rw [← e1.out]; decide)
      have hE4 := Lib.hid (show E = 0 by rw [hE3.out, if_neg q5])
      have q6 : ¬ (64 : Int) ≤ (i : Int) := by omega
      obtain ⟨i0, hi0, hz0, hz1, hz2⟩ := info_parts info_motion
      clear hE3
      go_upto_region 15 with (fail)
      replace S := S.drew
      have T := S
      clear S cx c3
      obtain ⟨xs, hxs⟩ : ∃ xs, xs = zipV (fun i => v (.voted x.drill i)) 0 (h.led x.drill).motions := ⟨_, rfl⟩
      have hxl : xs.length = i := by rw [hxs, zipV_len, hnm.out]
      have own : Own wr.drew B 52 8 encVM (.slice Am i cm) xs := by
        have := T.p.rows.motions x.drill
        rw [em.out, ← hxs, ← hnm.out] at this
        exact this
      have hcs : ∀ W, Blk W hb 43 (rCells v h) → W.cell? ⟨hb, o + 2, none⟩ = some (.slice Am i cm) := fun W b => by rw [hnm.out]; exact (hcells.out W b).2.2.1
      have em2 := em.out
      rw [← hnm.out] at em2
      replace em2 := Lib.hid em2
      replace hxs := Lib.hid hxs
      replace hxl := Lib.hid hxl
      obtain ⟨S, hS⟩ : ∃ S : Nat → World → Prop, S = fun n w' => if n = 0 then Blk w' xb 36 #[.int .i64 x.kind, .int .i64 x.tick, .bool x.drill, .int .i64 x.a, .int .i64 x.b, .bool x.yes, .int .i64 x.chance.least, .int .i64 x.chance.most, .int .i64 x.chance.all] ∧ w'.cell? ⟨hb, o + 2, none⟩ = some (.slice Am i cm) else True := ⟨_, rfl⟩
      have hS0 : ∀ w', S 0 w' ↔ (Blk w' xb 36 #[.int .i64 x.kind, .int .i64 x.tick, .bool x.drill, .int .i64 x.a, .int .i64 x.b, .bool x.yes, .int .i64 x.chance.least, .int .i64 x.chance.most, .int .i64 x.chance.all] ∧ w'.cell? ⟨hb, o + 2, none⟩ = some (.slice Am i cm)) := fun w' => by rw [hS]; exact Iff.rfl
      have hS1 : ∀ w', S 1 w' ↔ (True) := fun w' => by rw [hS]; exact Iff.rfl
      clear hS
      have cx := fun (q : Ev (S 0)) i => ((hS0 _).1 q.h).1.cell i
      have cg := fun (q : Ev (S 0)) => ((hS0 _).1 q.h).2
      have hSB : B ≤ wr.drew.heap.size := by have := T.p.low; have := T.p.lt; omega
      have hevT := ev_true
      refine wp_region_ord S [(0, 0), (1, 0), (2, 0), (3, 0), (4, 1), (5, 0), (6, 1), (7, 0), (8, 1), (9, 0), (10, 1), (11, 0), (12, 2), (13, 2), (14, 0), (15, 0), (16, 3)] [16] (by kernel_rfl) (by kernel_rfl) ((hS0 _).2 ⟨T.x.blk, hcs _ T.p.blk⟩) ?_
      intro _hev
      iterate 12 (first | (refine wpOrd_v rfl rfl ?_; intro K hK; go_big_quiet_op; go_big_quiet_on) | (refine wpOrd_q rfl rfl ?_; intro K hK; go_big_quiet_op; go_big_quiet_on) | refine wpOrd_s (by decide) rfl rfl ?_)
      refine wpOrd_l rfl rfl ?_; intro K hK
      go_step
      have X := Blk.new wr.drew 52 (encMot (.slice none 0 0) (newM x)).toArray
      have KX := Kp.new wr.drew (.cells (encMot (.slice none 0 0) (newM x)).toArray 52)
      rw [show (World.alloc wr (.cells #[.int .i64 x.a, .int .i64 x.b, .int .i64 x.tick, .int .i64 1, .int .i64 0, .int .i64 0, .slice none 0 0, .int .i64 (-1)] 52)).drew = wr.drew.alloc (.cells (encMot (.slice none 0 0) (newM x)).toArray 52) from rfl]
      obtain ⟨sb, hsb⟩ : ∃ q, q = wr.heap.size := ⟨_, rfl⟩
      rw [← hsb]
      replace X : Blk (wr.drew.alloc (.cells (encMot (.slice none 0 0) (newM x)).toArray 52)) sb _ _ := hsb ▸ X
      generalize wr.drew.alloc (.cells (encMot (.slice none 0 0) (newM x)).toArray 52) = w7 at X KX ⊢
      replace hsb := Lib.hid hsb
      replace T := T.kpN KX
      replace own := own.kpN KX
      replace hSB := Nat.le_trans hSB KX.size
      clear KX
      refine hK _ _ ((hS0 _).2 ⟨T.x.blk, hcs _ T.p.blk⟩) ?_
      clear hK K
      have own2 := own
      unfold Own at own2
      rw [hxl.out] at own2
      refine wpOrd_l rfl rfl ?_; intro K hK
      refine wp_append_own_at (.tmp 83) (.tmp 91) 38 (by rfl) B 52 i0 _ 8 80 Tryz.underlying38 hi0 hz0 hz1 hz2 (by rfl) (by omega) (.slice Am i cm) i (xs.flatMap encVM) (by rfl) own2 ⟨sb, 0, none⟩ 1 1 (encMot (.slice none 0 0) (newM x)) (by rfl) (by rfl) (fun j u hj => by rw [Addr.add_lit, Nat.zero_add, X.cell]; simpa using hj) (one_mot _) (maxLen_of (by omega)) (by omega) hSB ?_
      intro u8 w8 hown8 gu au
      obtain ⟨g8, cap8, rfl⟩ := ownsRow_succ hown8
      have st := T.p.motionStep (d := x.drill) (newM x) rfl _ (by rw [em2.out]; exact gu) (by rw [← hxs.out]; unfold Own; rw [List.length_append, List.flatMap_append, hxl.out]; simpa [encVM] using hown8)
        (by rw [em2.out]; rcases au with h1 | h1
            · exact .inl h1
            · right; intro b hb'; rw [h1] at hb'; injection hb' with hb'; omega)
      rw [← ho.out] at st
      have T3 := T.step st
      have B8 := (gu.block hb T.p.lt (fun e => T.p.rows.hb (.motions x.drill) hb (by rw [rowOf_v, em2.out]; exact e.symm) rfl)).trans T.p.blk
      have X8 := (gu.block xb T.x.blk.lt (fun e => T.x.apart.2 (.motions x.drill) (by rw [em2.out]; exact e.symm))).trans T.x.blk
      have c8 := hcs _ B8
      have f8 := Blk.frozen B8 (o + 2)
      refine hK _ _ ((hS0 _).2 ⟨X8, c8⟩) ?_
      try simp only [Act.put, List.setIfInBounds_toArray, List.set_cons_zero, List.set_cons_succ]
      clear hK K
      iterate 2 (first | (refine wpOrd_v rfl rfl ?_; intro K hK; go_big_quiet_op; go_big_quiet_on) | (refine wpOrd_q rfl rfl ?_; intro K hK; go_big_quiet_op; go_big_quiet_on) | refine wpOrd_s (by decide) rfl rfl ?_)
      refine wpOrd_a rfl rfl ?_; intro K hK
      go_step
      refine hK _ _ ((hS1 _).2 trivial) ?_
      clear hK K
      change wpOrd _ _ _ _ _ 1 _ _
      refine wpOrd_nil ?_
      clear hevT _hev
      clear hS0 hS1 S cx cg
      have fin := Lib.hid (RDPost.fin T3 hE4.out)
      go_wp2
      go_ret
      exact fin.out
end Go.Proofs.YtogpgnljomchcaaGreat
