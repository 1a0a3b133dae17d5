/- The house of the program and that of the reference in memory; what a step leaves alone. -/
import Derived.Test.YtogpgnljomchcaaHs
namespace Go.Proofs.Ytogpgnljomchcaa
open Go.RowKit

def pCells (V : CV) (c : Council) (v : Ky → Value) (h : House) : Array Value := #[.slice V.am c.members.length V.cm, .slice V.al c.laws.length V.cl, .slice V.av c.levels.length V.cv, .int .i64 h.tick, v (.sent false), .int .i64 h.real.items, v (.facts false), v (.motions false), v (.sent true), .int .i64 h.drill.items, v (.facts true), v (.motions true)]
def rCells (v : Ky → Value) (h : House) : Array Value := #[.int .i64 h.tick, .int .i64 h.real.items, v (.facts false), v (.motions false), v (.sent false), .int .i64 h.drill.items, v (.facts true), v (.motions true), v (.sent true)]
structure PH (B hb : Nat) (w : World) (V : CV) (c : Council) (v : Ky → Value) (h : House) : Prop where
  rows : RowsAt B hb w (rowOf h v)
  low : B ≤ hb
  blk : Blk w hb 103 (pCells V c v h)
  c : CAt B w V c
structure RH (B hb : Nat) (w : World) (v : Ky → Value) (h : House) : Prop where
  rows : RowsAt B hb w (rowOf h v)
  low : B ≤ hb
  blk : Blk w hb 46 (rCells v h)
/-- not a block of the house -/
def Apart (hb : Nat) (v : Ky → Value) (k : Nat) : Prop := k ≠ hb ∧ ∀ j, (v j).ownBlock ≠ some k
/-- what a step of a house leaves alone -/
structure Fr (hb : Nat) (v v' : Ky → Value) (w w' : World) : Prop where
  os : w'.os = w.os
  tape : w'.tape = w.tape
  output : w'.output = w.output
  size : w.heap.size ≤ w'.heap.size
  block : ∀ k, k < w.heap.size → Apart hb v k → w'.heap[k]? = w.heap[k]? ∧ Apart hb v' k
section
variable {B hb : Nat} {w w' w1 w2 : World} {v v' v1 v2 : Ky → Value} {V : CV} {c : Council} {h h' : House}
theorem Fr.refl (hb : Nat) (v : Ky → Value) (w : World) : Fr hb v v w w := ⟨rfl, rfl, rfl, Nat.le_refl _, fun _ _ ha => ⟨rfl, ha⟩⟩
theorem Fr.trans (h : Fr hb v v1 w w1) (k : Fr hb v1 v2 w1 w2) : Fr hb v v2 w w2 :=
  ⟨k.os.trans h.os, k.tape.trans h.tape, k.output.trans h.output, Nat.le_trans h.size k.size, fun i hi ha => by
    obtain ⟨e1, a1⟩ := h.block i hi ha
    obtain ⟨e2, a2⟩ := k.block i (Nat.lt_of_lt_of_le hi h.size) a1
    exact ⟨e2.trans e1, a2⟩⟩
theorem Fr.of_kp (hb : Nat) (v : Ky → Value) (k : Kp w.heap.size none w w') : Fr hb v v w w' := ⟨k.os, k.tape, k.output, k.size, fun i hi ha => ⟨k.block i hi (by simp), ha⟩⟩
theorem Fr.thenKp (h : Fr hb v v1 w w1) (k : Kp w1.heap.size none w1 w2) : Fr hb v v1 w w2 := h.trans (Fr.of_kp hb v1 k)
theorem Fr.drew (h : Fr hb v v1 w w1) : Fr hb v v1 w w1.drew := h.thenKp (Kp.refl _ _ _).drew
theorem Fr.alloc (h : Fr hb v v1 w w1) (o : Obj) : Fr hb v v1 w (w1.alloc o) := h.thenKp (Kp.new _ o)
theorem Fr.setH (h : Fr hb v v1 w w1) (o : Nat) (u : Value) : Fr hb v v1 w (w1.setCell ⟨hb, o, none⟩ u) :=
  h.trans ⟨rfl, rfl, rfl, by simp [World.setCell], fun i _ ha => ⟨Below.heap_setCell _ _ _ _ ha.1, ha⟩⟩
/-- a store into a fresh block, or into one of ours above -/
theorem Fr.row (h : Fr hb v v1 w w1) (k0 : Ky) (u : Value) (hg : w1.grownBy w2 (v1 k0).ownBlock) (hat : u.ownBlock = (v1 k0).ownBlock ∨ ∀ b, u.ownBlock = some b → w1.heap.size ≤ b) : Fr hb v (updV v1 k0 u) w w2 :=
  h.trans ⟨hg.os, hg.tape, hg.output, hg.size, fun i hi ha => ⟨hg.block i hi (fun e => ha.2 k0 e.symm), ha.1, fun j => by
    by_cases hj : j = k0
    · subst hj
      rw [updV_same]
      rcases hat with hat | hat
      · rw [hat]; exact ha.2 j
      · intro e; have := hat i e; omega
    · rw [updV_ne _ _ hj]; exact ha.2 j⟩⟩
theorem Fr.nilRow (h : Fr hb v v1 w w1) (k0 : Ky) : Fr hb v (updV v1 k0 (.slice none 0 0)) w w1 := h.row k0 _ (grown_refl _ _) (.inr fun b e => by cases e)
theorem Fr.same (h : Fr hb v v1 w w1) (k0 : Ky) (hg : w1.grownBy w2 (v1 k0).ownBlock) : Fr hb v v1 w w2 :=
  h.trans ⟨hg.os, hg.tape, hg.output, hg.size, fun i hi ha => ⟨hg.block i hi (fun e => ha.2 k0 e.symm), ha⟩⟩
theorem RowsAt.apart (hr : RowsAt B hb w (rowOf h v)) {k : Nat} (hk : k < B) (hb' : B ≤ hb) : Apart hb v k :=
  ⟨by omega, fun j e => by have := (World.ownsRow.lt (hr.own j) k (by rw [rowOf_v]; exact e)).1; omega⟩
theorem RowsAt.apartNew (hr : RowsAt B hb w (rowOf h v)) {k : Nat} (hk : w.heap.size ≤ k) (hb' : hb < w.heap.size) : Apart hb v k :=
  ⟨by omega, fun j e => by have := (World.ownsRow.lt (hr.own j) k (by rw [rowOf_v]; exact e)).2; omega⟩
theorem Fr.kp (hf : Fr hb v v' w w') (hr : RowsAt B hb w (rowOf h v)) (hB : B ≤ hb) (hw : hb < w.heap.size) : Kp B none w w' :=
  ⟨hf.os, hf.tape, hf.output, hf.size, fun k hk _ => (hf.block k (by omega) (hr.apart hk hB)).1⟩
theorem Blk.fr {g : Nat} {t : TypeId} {cs : Array Value} (h : Blk w g t cs) (hf : Fr hb v v' w w') (ha : Apart hb v g) : Blk w' g t cs := (hf.block g h.lt ha).1.trans h
theorem Apart.fr {g : Nat} (ha : Apart hb v g) (hf : Fr hb v v' w w') (hg : g < w.heap.size) : Apart hb v' g := (hf.block g hg ha).2

theorem PH.lt (h : PH B hb w V c v h') : hb < w.heap.size := h.blk.lt
theorem RH.lt (h : RH B hb w v h') : hb < w.heap.size := h.blk.lt
theorem PH.kpN (p : PH B hb w V c v h) (k : Kp w.heap.size none w w') : PH B hb w' V c v h := ⟨p.rows.kpN k, p.low, p.blk.kpN k, p.c.kpN k⟩
theorem RH.kpN (p : RH B hb w v h) (k : Kp w.heap.size none w w') : RH B hb w' v h := ⟨p.rows.kpN k, p.low, p.blk.kpN k⟩
theorem PH.alloc (p : PH B hb w V c v h) (o : Obj) : PH B hb (w.alloc o) V c v h := p.kpN (Kp.new _ o)
theorem RH.alloc (p : RH B hb w v h) (o : Obj) : RH B hb (w.alloc o) v h := p.kpN (Kp.new _ o)
theorem PH.drew (p : PH B hb w V c v h) : PH B hb w.drew V c v h := p.kpN (Kp.refl _ _ _).drew
theorem RH.drew (p : RH B hb w v h) : RH B hb w.drew v h := p.kpN (Kp.refl _ _ _).drew
theorem PH.kp (p : PH B hb w V c v h) (hf : Fr hb v v' w w') : Kp B none w w' := hf.kp p.rows p.low p.lt
theorem RH.kp (p : RH B hb w v h) (hf : Fr hb v v' w w') : Kp B none w w' := hf.kp p.rows p.low p.lt
end
end Go.Proofs.Ytogpgnljomchcaa
