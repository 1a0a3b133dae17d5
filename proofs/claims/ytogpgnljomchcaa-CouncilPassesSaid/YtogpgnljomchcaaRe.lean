/- What a deed of the reference's house carries along. -/
import Derived.Test.YtogpgnljomchcaaRd
import Derived.Test.YtogpgnljomchcaaJm
namespace Go.Proofs.Ytogpgnljomchcaa
open Go.RowKit

structure GS (B hb cb xb : Nat) (V : CV) (c : Council) (v0 v : Ky → Value) (h : House) (x : CItem) (w0 w : World) : Prop where
  p : RH B hb w v h
  ca : CAt B w V c
  cl : Lcl hb v w cb 26 #[.slice V.am c.members.length V.cm, .slice V.al c.laws.length V.cl, .slice V.av c.levels.length V.cv]
  x : Lcl hb v w xb 31 #[.int .i64 x.kind, .int .i64 x.tick, .bool x.drill, .int .i64 x.a, .int .i64 x.b, .bool x.yes, .int .i64 x.chance.least, .int .i64 x.chance.most, .int .i64 x.chance.all]
  f : Fr hb v0 v w0 w
theorem RH.other {B hb g : Nat} {w w' : World} {v : Ky → Value} {h : House} (p : RH B hb w v h) (hg : w.grownBy w' (some g)) (ha : Apart hb v g) : RH B hb w' v h :=
  ⟨p.rows.other hg ha, p.low, (hg.block hb p.lt (fun e => ha.1 (by injection e with e; exact e.symm))).trans p.blk⟩
theorem CAt.other {B g : Nat} {w w' : World} {V : CV} {c : Council} (p : CAt B w V c) (hg : w.grownBy w' (some g)) (hB : B ≤ g) (hw : B ≤ w.heap.size) : CAt B w' V c :=
  p.kp ⟨hg.os, hg.tape, hg.output, hg.size, fun k hk _ => hg.block k (by omega) (fun e => by injection e with e; omega)⟩
section
variable {B hb cb xb : Nat} {V : CV} {c : Council} {v0 v v' : Ky → Value} {h h' : House} {x : CItem} {w0 w w' : World}
theorem GS.start (p : RH B hb w v h) (hc : CAt B w V c) (x : CItem) : GS B hb w.heap.size (w.heap.size + 1) V c v v h x w ((w.alloc (.cells #[.slice V.am c.members.length V.cm, .slice V.al c.laws.length V.cl, .slice V.av c.levels.length V.cv] 26)).alloc (.cells #[.int .i64 x.kind, .int .i64 x.tick, .bool x.drill, .int .i64 x.a, .int .i64 x.b, .bool x.yes, .int .i64 x.chance.least, .int .i64 x.chance.most, .int .i64 x.chance.all] 31)) := by
  have p1 := p.alloc (.cells #[.slice V.am c.members.length V.cm, .slice V.al c.laws.length V.cl, .slice V.av c.levels.length V.cv] 26)
  have l1 := (p.lcl 26 #[.slice V.am c.members.length V.cm, .slice V.al c.laws.length V.cl, .slice V.av c.levels.length V.cv]).kpN (Kp.new _ (.cells #[.int .i64 x.kind, .int .i64 x.tick, .bool x.drill, .int .i64 x.a, .int .i64 x.b, .bool x.yes, .int .i64 x.chance.least, .int .i64 x.chance.most, .int .i64 x.chance.all] 31))
  have l2 := p1.lcl 31 #[.int .i64 x.kind, .int .i64 x.tick, .bool x.drill, .int .i64 x.a, .int .i64 x.b, .bool x.yes, .int .i64 x.chance.least, .int .i64 x.chance.most, .int .i64 x.chance.all]
  rw [show (w.alloc (.cells #[.slice V.am c.members.length V.cm, .slice V.al c.laws.length V.cl, .slice V.av c.levels.length V.cv] 26)).heap.size = w.heap.size + 1 by simp] at l2
  exact ⟨p1.alloc _, hc.kpN (Kp.new2 _ _ _), l1, l2, ((Fr.refl hb v w).alloc _).alloc _⟩
theorem GS.kpN (s : GS B hb cb xb V c v0 v h x w0 w) (k : Kp w.heap.size none w w') : GS B hb cb xb V c v0 v h x w0 w' := ⟨s.p.kpN k, s.ca.kpN k, s.cl.kpN k, s.x.kpN k, s.f.thenKp k⟩
theorem GS.drew (s : GS B hb cb xb V c v0 v h x w0 w) : GS B hb cb xb V c v0 v h x w0 w.drew := s.kpN (Kp.refl _ _ _).drew
theorem GS.step (s : GS B hb cb xb V c v0 v h x w0 w) (q : RH B hb w' v' h' ∧ Fr hb v v' w w') : GS B hb cb xb V c v0 v' h' x w0 w' := ⟨q.1, s.ca.kp (s.p.kp q.2), s.cl.fr q.2, s.x.fr q.2, s.f.trans q.2⟩
theorem GS.other {g : Nat} (s : GS B hb cb xb V c v0 v h x w0 w) (hg : w.grownBy w' (some g)) (ha : Apart hb v g) (h0 : w0.heap.size ≤ g) (h1 : cb ≠ g) (h2 : xb ≠ g) (hB : B ≤ g) : GS B hb cb xb V c v0 v h x w0 w' :=
  ⟨s.p.other hg ha, s.ca.other hg hB (by have := s.p.low; have := s.p.lt; omega), s.cl.other hg h1, s.x.other hg h2, s.f.other hg h0⟩
theorem GS.fresh (s : GS B hb cb xb V c v0 v h x w0 w) (t : TypeId) (cs : Array Value) :
    ∃ nb wq, wq = w.alloc (.cells cs t) ∧ nb = w.heap.size ∧ GS B hb cb xb V c v0 v h x w0 wq ∧ Lcl hb v wq nb t cs ∧ w0.heap.size ≤ nb ∧ cb ≠ nb ∧ xb ≠ nb ∧ B ≤ nb :=
  ⟨w.heap.size, _, rfl, rfl, s.kpN (Kp.new _ _), s.p.lcl _ _, s.f.size, by have := s.cl.blk.lt; omega, by have := s.x.blk.lt; omega, by have := s.p.low; have := s.p.lt; omega⟩
end
theorem rCells_items (v : Ky → Value) (h : House) (d : Bool) : (rCells v h)[rD d]? = some (.int .i64 (h.led d).items) := by cases d <;> rfl
theorem rCells_facts (v : Ky → Value) (h : House) (d : Bool) : (rCells v h)[rD d + 1]? = some (v (.facts d)) := by cases d <;> rfl
theorem rCells_mot (v : Ky → Value) (h : House) (d : Bool) : (rCells v h)[rD d + 2]? = some (v (.motions d)) := by cases d <;> rfl
theorem rCells_sent (v : Ky → Value) (h : House) (d : Bool) : (rCells v h)[rD d + 3]? = some (v (.sent d)) := by cases d <;> rfl
theorem grown_of_kp {w w' : World} (k : Kp w.heap.size none w w') (row : Option Nat) : w.grownBy w' row := ⟨k.os, k.tape, k.output, k.size, fun i hi _ => k.block i hi (by simp)⟩
def RDPost (B hb : Nat) (v : Ky → Value) (h : House) (x : CItem) (E : Int) (L : Ledger) (w : World) (e : Ending) (w' : World) : Prop :=
  e = .returned (.int .i64 E) ∧ ∃ v', RH B hb w' v' (if E = 0 then h.put x.drill L else h) ∧ Fr hb v v' w w'
theorem RDPost.err {B hb cb xb : Nat} {V : CV} {c : Council} {v v' : Ky → Value} {h : House} {x : CItem} {E : Int} {L : Ledger} {w w' : World} {n : Int} (s : GS B hb cb xb V c v v' h x w w') (hn : n = E) (h0 : E ≠ 0) : RDPost B hb v h x E L w (.returned (.int .i64 n)) w' :=
  ⟨by rw [hn], v', by rw [if_neg h0]; exact s.p, s.f⟩
theorem RDPost.fin {B hb cb xb : Nat} {V : CV} {c : Council} {v v' : Ky → Value} {h : House} {x : CItem} {E : Int} {L : Ledger} {w w' : World} (s : GS B hb cb xb V c v v' (h.put x.drill L) x w w') (h0 : E = 0) : RDPost B hb v h x E L w (.returned (.int .i64 0)) w' :=
  ⟨by rw [h0], v', by rw [if_pos h0]; exact s.p, s.f⟩
theorem RH.motAt {B hb : Nat} {w : World} {v : Ky → Value} {h : House} {d : Bool} (p : RH B hb w v h) {g n cap : Nat} (hv : v (.motions d) = .slice (some ⟨g, 0, none⟩) n cap) (i : Nat) (hi : i < (h.led d).motions.length) :
    (∀ j u, (encMot (v (.voted d i)) (h.led d).motions[i])[j]? = some u → w.cell? ⟨g, i * 8 + j, none⟩ = some u) ∧ (∀ j, w.frozen? ⟨g, j, none⟩ = false) ∧ g < w.heap.size ∧ g ≠ hb ∧ B ≤ g := by
  have own := p.rows.motions d
  rw [hv] at own
  obtain ⟨A, cap', e, rd, -⟩ := own.rd0 (fun _ => rfl)
  simp only [Value.slice.injEq] at e
  obtain ⟨rfl, rfl, rfl⟩ := e
  have hge := own.ge g rfl
  refine ⟨fun j u hj => ?_, fun j => World.ownsRow.frozenAt own j, hge.2, fun e => p.rows.hb (.motions d) hb (by rw [rowOf_v, hv, ← e]; rfl) rfl, hge.1⟩
  have hz : i < (zipV (fun i => v (.voted d i)) 0 (h.led d).motions).length := by rw [zipV_len]; exact hi
  obtain ⟨b, o', e2, -, -, hcc⟩ := rd.at_ (by omega)
  simp only [Option.some.injEq, Addr.mk.injEq] at e2
  obtain ⟨rfl, rfl, -⟩ := e2
  have := hcc i hz j u (by rw [zipV_at _ _ _ _ hi, Nat.zero_add]; exact hj)
  rwa [Nat.zero_add] at this
theorem RH.motForm {B hb : Nat} {w : World} {v : Ky → Value} {h : House} (p : RH B hb w v h) (d : Bool) : ∃ A cap, v (.motions d) = .slice A (h.led d).motions.length cap ∧ (0 < (h.led d).motions.length → ∃ g, A = some ⟨g, 0, none⟩) := by
  obtain ⟨A, cap, e, -, hA⟩ := (p.rows.motions d).rd0 (fun _ => rfl)
  rw [zipV_len] at e
  refine ⟨A, cap, e, fun h0 => ?_⟩
  rcases hA with ⟨-, hz, -⟩ | ⟨g, rfl, -⟩
  · have := congrArg List.length hz
    rw [zipV_len] at this
    simp at this
    rw [this] at h0
    simp at h0
  · exact ⟨g, rfl⟩
theorem RH.motEnd {B hb : Nat} {w : World} {v : Ky → Value} {h : House} {d : Bool} (p : RH B hb w v h) {g n cap : Nat} (hv : v (.motions d) = .slice (some ⟨g, 0, none⟩) n cap) (i : Nat) (hi : i < (h.led d).motions.length) (s f : Int) :
    RH B hb ((w.setCell ⟨g, i * 8 + 3, none⟩ (.int .i64 s)).setCell ⟨g, i * 8 + 7, none⟩ (.int .i64 f)) v (h.put d { h.led d with motions := (h.led d).motions.set i { (h.led d).motions[i] with state := s, fact := f } }) ∧
      Fr hb v v w ((w.setCell ⟨g, i * 8 + 3, none⟩ (.int .i64 s)).setCell ⟨g, i * 8 + 7, none⟩ (.int .i64 f)) := by
  have a := p.motCell hv i hi 3 (by omega) (.int .i64 s) { (h.led d).motions[i] with state := s } rfl rfl
  have e1 : ∀ l : Ledger, ((h.put d l).led d) = l := fun l => put_led h d l
  have hi2 : i < ((h.put d { h.led d with motions := (h.led d).motions.set i { (h.led d).motions[i] with state := s } }).led d).motions.length := by rw [e1]; simpa using hi
  have hm2 : ((h.put d { h.led d with motions := (h.led d).motions.set i { (h.led d).motions[i] with state := s } }).led d).motions[i] = { (h.led d).motions[i] with state := s } := by
    simp only [e1, List.getElem_set_self]
  have b := a.1.motCell hv i hi2 7 (by omega) (.int .i64 f) { (h.led d).motions[i] with state := s, fact := f } (by rw [hm2]) (by rw [hm2]; rfl)
  rw [put_put, e1] at b
  simp only [List.set_set] at b
  exact ⟨b.1, a.2.trans b.2⟩
end Go.Proofs.Ytogpgnljomchcaa
