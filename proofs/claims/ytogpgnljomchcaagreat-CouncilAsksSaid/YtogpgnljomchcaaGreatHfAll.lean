/- The house of the program and that of the reference in memory; what a step leaves alone. Steps of a house in memory, for the program's and for the reference's. -/
import Derived.Test.YtogpgnljomchcaaGreatHs
namespace Go.Proofs.YtogpgnljomchcaaGreat
open Go.RowKit

def pCells (V : CV) (c : Council) (v : Ky → Value) (h : House) : Array Value := #[.slice V.am c.members.length V.cm, .slice V.al c.laws.length V.cl, .slice V.av c.levels.length V.cv, .int .i64 h.tick, v (.sent false), .int .i64 h.real.items, v (.facts false), v (.motions false), v (.sent true), .int .i64 h.drill.items, v (.facts true), v (.motions true)]
def rCells (v : Ky → Value) (h : House) : Array Value := #[.int .i64 h.tick, .int .i64 h.real.items, v (.facts false), v (.motions false), v (.sent false), .int .i64 h.drill.items, v (.facts true), v (.motions true), v (.sent true)]
structure PH (B hb : Nat) (w : World) (V : CV) (c : Council) (v : Ky → Value) (h : House) : Prop where
  rows : RowsAt B hb w (rowOf h v)
  low : B ≤ hb
  blk : Blk w hb 84 (pCells V c v h)
  c : CAt B w V c
structure RH (B hb : Nat) (w : World) (v : Ky → Value) (h : House) : Prop where
  rows : RowsAt B hb w (rowOf h v)
  low : B ≤ hb
  blk : Blk w hb 43 (rCells v h)
/-- not a block of the house -/
def Apart (hb : Nat) (v : Ky → Value) (k : Nat) : Prop := k ≠ hb ∧ ∀ j, (v j).ownBlock ≠ some k
/-- what a step of a house leaves alone -/
structure Fr (hb : Nat) (v v' : Ky → Value) (w w' : World) : Prop where
  os : w'.os = w.os
  tape : w'.tape = w.tape
  output : w'.output = w.output
  size : w.heap.size ≤ w'.heap.size
  block : ∀ k, k < w.heap.size → Apart hb v k → w'.heap[k]? = w.heap[k]? ∧ Apart hb v' k
section
variable {B hb : Nat} {w w' w1 w2 : World} {v v' v1 v2 : Ky → Value} {V : CV} {c : Council} {h h' : House}
theorem Fr.refl (hb : Nat) (v : Ky → Value) (w : World) : Fr hb v v w w := ⟨rfl, rfl, rfl, Nat.le_refl _, fun _ _ ha => ⟨rfl, ha⟩⟩
theorem Fr.trans (h : Fr hb v v1 w w1) (k : Fr hb v1 v2 w1 w2) : Fr hb v v2 w w2 :=
  ⟨k.os.trans h.os, k.tape.trans h.tape, k.output.trans h.output, Nat.le_trans h.size k.size, fun i hi ha => by
    obtain ⟨e1, a1⟩ := h.block i hi ha
    obtain ⟨e2, a2⟩ := k.block i (Nat.lt_of_lt_of_le hi h.size) a1
    exact ⟨e2.trans e1, a2⟩⟩
theorem Fr.of_kp (hb : Nat) (v : Ky → Value) (k : Kp w.heap.size none w w') : Fr hb v v w w' := ⟨k.os, k.tape, k.output, k.size, fun i hi ha => ⟨k.block i hi (by simp), ha⟩⟩
theorem Fr.thenKp (h : Fr hb v v1 w w1) (k : Kp w1.heap.size none w1 w2) : Fr hb v v1 w w2 := h.trans (Fr.of_kp hb v1 k)
theorem Fr.drew (h : Fr hb v v1 w w1) : Fr hb v v1 w w1.drew := h.thenKp (Kp.refl _ _ _).drew
theorem Fr.alloc (h : Fr hb v v1 w w1) (o : Obj) : Fr hb v v1 w (w1.alloc o) := h.thenKp (Kp.new _ o)
theorem Fr.setH (h : Fr hb v v1 w w1) (o : Nat) (u : Value) : Fr hb v v1 w (w1.setCell ⟨hb, o, none⟩ u) :=
  h.trans ⟨rfl, rfl, rfl, by simp [World.setCell], fun i _ ha => ⟨Below.heap_setCell _ _ _ _ ha.1, ha⟩⟩
/-- a store into a fresh block, or into one of ours above -/
theorem Fr.row (h : Fr hb v v1 w w1) (k0 : Ky) (u : Value) (hg : w1.grownBy w2 (v1 k0).ownBlock) (hat : u.ownBlock = (v1 k0).ownBlock ∨ ∀ b, u.ownBlock = some b → w1.heap.size ≤ b) : Fr hb v (updV v1 k0 u) w w2 :=
  h.trans ⟨hg.os, hg.tape, hg.output, hg.size, fun i hi ha => ⟨hg.block i hi (fun e => ha.2 k0 e.symm), ha.1, fun j => by
    by_cases hj : j = k0
    · subst hj
      rw [updV_same]
      rcases hat with hat | hat
      · rw [hat]; exact ha.2 j
      · intro e; have := hat i e; omega
    · rw [updV_ne _ _ hj]; exact ha.2 j⟩⟩
theorem Fr.nilRow (h : Fr hb v v1 w w1) (k0 : Ky) : Fr hb v (updV v1 k0 (.slice none 0 0)) w w1 := h.row k0 _ (grown_refl _ _) (.inr fun b e => by cases e)
theorem Fr.same (h : Fr hb v v1 w w1) (k0 : Ky) (hg : w1.grownBy w2 (v1 k0).ownBlock) : Fr hb v v1 w w2 :=
  h.trans ⟨hg.os, hg.tape, hg.output, hg.size, fun i hi ha => ⟨hg.block i hi (fun e => ha.2 k0 e.symm), ha⟩⟩
theorem RowsAt.apart (hr : RowsAt B hb w (rowOf h v)) {k : Nat} (hk : k < B) (hb' : B ≤ hb) : Apart hb v k :=
  ⟨by omega, fun j e => by have := (World.ownsRow.lt (hr.own j) k (by rw [rowOf_v]; exact e)).1; omega⟩
theorem RowsAt.apartNew (hr : RowsAt B hb w (rowOf h v)) {k : Nat} (hk : w.heap.size ≤ k) (hb' : hb < w.heap.size) : Apart hb v k :=
  ⟨by omega, fun j e => by have := (World.ownsRow.lt (hr.own j) k (by rw [rowOf_v]; exact e)).2; omega⟩
theorem Fr.kp (hf : Fr hb v v' w w') (hr : RowsAt B hb w (rowOf h v)) (hB : B ≤ hb) (hw : hb < w.heap.size) : Kp B none w w' :=
  ⟨hf.os, hf.tape, hf.output, hf.size, fun k hk _ => (hf.block k (by omega) (hr.apart hk hB)).1⟩
theorem Blk.fr {g : Nat} {t : TypeId} {cs : Array Value} (h : Blk w g t cs) (hf : Fr hb v v' w w') (ha : Apart hb v g) : Blk w' g t cs := (hf.block g h.lt ha).1.trans h
theorem Apart.fr {g : Nat} (ha : Apart hb v g) (hf : Fr hb v v' w w') (hg : g < w.heap.size) : Apart hb v' g := (hf.block g hg ha).2

theorem PH.lt (h : PH B hb w V c v h') : hb < w.heap.size := h.blk.lt
theorem RH.lt (h : RH B hb w v h') : hb < w.heap.size := h.blk.lt
theorem PH.kpN (p : PH B hb w V c v h) (k : Kp w.heap.size none w w') : PH B hb w' V c v h := ⟨p.rows.kpN k, p.low, p.blk.kpN k, p.c.kpN k⟩
theorem RH.kpN (p : RH B hb w v h) (k : Kp w.heap.size none w w') : RH B hb w' v h := ⟨p.rows.kpN k, p.low, p.blk.kpN k⟩
theorem PH.alloc (p : PH B hb w V c v h) (o : Obj) : PH B hb (w.alloc o) V c v h := p.kpN (Kp.new _ o)
theorem RH.alloc (p : RH B hb w v h) (o : Obj) : RH B hb (w.alloc o) v h := p.kpN (Kp.new _ o)
theorem PH.drew (p : PH B hb w V c v h) : PH B hb w.drew V c v h := p.kpN (Kp.refl _ _ _).drew
theorem RH.drew (p : RH B hb w v h) : RH B hb w.drew v h := p.kpN (Kp.refl _ _ _).drew
theorem PH.kp (p : PH B hb w V c v h) (hf : Fr hb v v' w w') : Kp B none w w' := hf.kp p.rows p.low p.lt
theorem RH.kp (p : RH B hb w v h) (hf : Fr hb v v' w w') : Kp B none w w' := hf.kp p.rows p.low p.lt
end
end Go.Proofs.YtogpgnljomchcaaGreat
namespace Go.Proofs.YtogpgnljomchcaaGreat
open Go.RowKit

def oD (d : Bool) : Nat := if d then 8 else 4
def rD (d : Bool) : Nat := if d then 5 else 1
theorem Blk.setH {w w' : World} {hb : Nat} {t : TypeId} {cs : Array Value} (h : Blk w hb t cs) {row : Option Nat} (hg : w.grownBy w' row) (hne : row ≠ some hb) (o : Nat) (u : Value) : Blk (w'.setCell ⟨hb, o, none⟩ u) hb t (cs.setIfInBounds o u) :=
  Blk.set_ ((hg.block hb h.lt (fun e => hne e.symm)).trans h) o u
section
variable {B hb : Nat} {w w' : World} {v : Ky → Value} {V : CV} {c : Council} {h : House} {d : Bool}
theorem setH_kp (w : World) (hb o : Nat) (u : Value) : Kp w.heap.size (some hb) w (w.setCell ⟨hb, o, none⟩ u) := (Kp.refl _ _ w).setRow (p := ⟨hb, o, none⟩) rfl u
theorem PH_facts_cells (fs : List Known) (u : Value) : (pCells V c v h).setIfInBounds (oD d + 2) u = pCells V c (updV v (.facts d) u) (h.put d { h.led d with facts := fs }) := by
  cases d <;> simp [pCells, updV, House.put, House.led, oD]
theorem PH.factsStep (p : PH B hb w V c v h) (fs : List Known) (u : Value) (hg : w.grownBy w' (v (.facts d)).ownBlock) (ho : Own w' B 68 6 encKnown u fs)
    (hat : u.ownBlock = (v (.facts d)).ownBlock ∨ ∀ b, u.ownBlock = some b → w.heap.size ≤ b) :
    PH B hb (w'.setCell ⟨hb, oD d + 2, none⟩ u) V c (updV v (.facts d) u) (h.put d { h.led d with facts := fs }) ∧ Fr hb v (updV v (.facts d) u) w (w'.setCell ⟨hb, oD d + 2, none⟩ u) := by
  have hne : (v (.facts d)).ownBlock ≠ some hb := fun e => p.rows.hb (.facts d) hb (by rw [rowOf_v]; exact e) rfl
  have F := ((Fr.refl hb v w).row (.facts d) u hg hat).setH (oD d + 2) u
  have K := p.kp F
  refine ⟨⟨(p.rows.setFacts p.lt fs u hg ho hat).kp (setH_kp w' hb _ u), p.low, ?_, p.c.kp K⟩, F⟩
  rw [← PH_facts_cells fs u]
  exact p.blk.setH hg hne _ u
theorem PH_sent_cells (fs : List Alarm) (u : Value) : (pCells V c v h).setIfInBounds (oD d + 0) u = pCells V c (updV v (.sent d) u) (h.put d { h.led d with sent := fs }) := by
  cases d <;> simp [pCells, updV, House.put, House.led, oD]
theorem PH.sentStep (p : PH B hb w V c v h) (fs : List Alarm) (u : Value) (hg : w.grownBy w' (v (.sent d)).ownBlock) (ho : Own w' B 106 4 encAlarm u fs)
    (hat : u.ownBlock = (v (.sent d)).ownBlock ∨ ∀ b, u.ownBlock = some b → w.heap.size ≤ b) :
    PH B hb (w'.setCell ⟨hb, oD d + 0, none⟩ u) V c (updV v (.sent d) u) (h.put d { h.led d with sent := fs }) ∧ Fr hb v (updV v (.sent d) u) w (w'.setCell ⟨hb, oD d + 0, none⟩ u) := by
  have hne : (v (.sent d)).ownBlock ≠ some hb := fun e => p.rows.hb (.sent d) hb (by rw [rowOf_v]; exact e) rfl
  have F := ((Fr.refl hb v w).row (.sent d) u hg hat).setH (oD d + 0) u
  have K := p.kp F
  refine ⟨⟨(p.rows.setSent p.lt fs u hg ho hat).kp (setH_kp w' hb _ u), p.low, ?_, p.c.kp K⟩, F⟩
  rw [← PH_sent_cells fs u]
  exact p.blk.setH hg hne _ u
theorem PH_motions_cells (m : Motion) (u : Value) : (pCells V c v h).setIfInBounds (oD d + 3) u = pCells V c (updV (updV v (.voted d (h.led d).motions.length) (.slice none 0 0)) (.motions d) u) (h.put d { h.led d with motions := (h.led d).motions ++ [m] }) := by
  cases d <;> simp [pCells, updV, House.put, House.led, oD]
theorem PH.motionStep (p : PH B hb w V c v h) (m : Motion) (hm : m.voted = []) (u : Value) (hg : w.grownBy w' (v (.motions d)).ownBlock)
    (ho : Own w' B 52 8 encVM u (zipV (fun i => v (.voted d i)) 0 (h.led d).motions ++ [(Value.slice none 0 0, m)]))
    (hat : u.ownBlock = (v (.motions d)).ownBlock ∨ ∀ b, u.ownBlock = some b → w.heap.size ≤ b) :
    PH B hb (w'.setCell ⟨hb, oD d + 3, none⟩ u) V c (updV (updV v (.voted d (h.led d).motions.length) (.slice none 0 0)) (.motions d) u) (h.put d { h.led d with motions := (h.led d).motions ++ [m] }) ∧ Fr hb v (updV (updV v (.voted d (h.led d).motions.length) (.slice none 0 0)) (.motions d) u) w (w'.setCell ⟨hb, oD d + 3, none⟩ u) := by
  have hne : (v (.motions d)).ownBlock ≠ some hb := fun e => p.rows.hb (.motions d) hb (by rw [rowOf_v]; exact e) rfl
  have e0 : updV v (.voted d (h.led d).motions.length) (.slice none 0 0) (.motions d) = v (.motions d) := updV_ne _ _ (by simp)
  have F := (((Fr.refl hb v w).nilRow (.voted d (h.led d).motions.length)).row (.motions d) u (by rw [e0]; exact hg) (by rw [e0]; exact hat)).setH (oD d + 3) u
  have K := p.kp F
  refine ⟨⟨(p.rows.addMotion p.lt m hm u hg ho hat).kp (setH_kp w' hb _ u), p.low, ?_, p.c.kp K⟩, F⟩
  rw [← PH_motions_cells m u]
  exact p.blk.setH hg hne _ u
theorem PH_same_cells (ms : List Motion) : pCells V c v h = pCells V c v (h.put d { h.led d with motions := ms }) := by
  cases d <;> rfl
theorem PH.motSame (p : PH B hb w V c v h) (ms : List Motion) (hms : ∀ j, vOf ms[j]? = votedOf (h.led d) j) (hg : w.grownBy w' (v (.motions d)).ownBlock)
    (ho : Own w' B 52 8 encVM (v (.motions d)) (zipV (fun i => v (.voted d i)) 0 ms)) :
    PH B hb w' V c v (h.put d { h.led d with motions := ms }) ∧ Fr hb v v w w' := by
  have hne : (v (.motions d)).ownBlock ≠ some hb := fun e => p.rows.hb (.motions d) hb (by rw [rowOf_v]; exact e) rfl
  have F := (Fr.refl hb v w).same (.motions d) hg
  have K := p.kp F
  refine ⟨⟨p.rows.setMotions p.lt ms hms hg ho, p.low, ?_, p.c.kp K⟩, F⟩
  rw [← PH_same_cells ms]
  exact (hg.block hb p.lt (fun e => hne e.symm)).trans p.blk
/-- one cell of a motion -/
theorem PH.motCell (p : PH B hb w V c v h) {g n cap : Nat} (hv : v (.motions d) = .slice (some ⟨g, 0, none⟩) n cap) (i : Nat) (hi : i < (h.led d).motions.length) (j : Nat) (hj : j < 8) (u : Value) (m : Motion) (hm : m.voted = (h.led d).motions[i].voted)
    (he : encMot (v (.voted d i)) m = (encMot (v (.voted d i)) (h.led d).motions[i]).set j u) :
    PH B hb (w.setCell ⟨g, i * 8 + j, none⟩ u) V c v (h.put d { h.led d with motions := (h.led d).motions.set i m }) ∧ Fr hb v v w (w.setCell ⟨g, i * 8 + j, none⟩ u) := by
  have own := p.rows.motions d
  rw [hv] at own
  have st := Own.setAt (sz := 8) (enc := encVM) (fun _ => rfl) own i (by rw [zipV_len]; exact hi) j hj u (v (.voted d i), m) (by rw [zipV_at _ _ _ _ hi, Nat.zero_add]; exact he)
  have e1 : (zipV (fun i => v (.voted d i)) 0 (h.led d).motions).set i (v (.voted d i), m) = zipV (fun i => v (.voted d i)) 0 ((h.led d).motions.set i m) := by rw [zipV_set, Nat.zero_add]
  rw [e1] at st
  refine p.motSame _ (fun k => ?_) (by rw [hv]; exact st.2) (by rw [hv]; exact st.1)
  unfold votedOf
  by_cases hk : k = i
  · subst hk; simp [hi, vOf, hm]
  · rw [List.getElem?_set_ne (Ne.symm hk)]
/-- a vote more, its slice stored in the motion's cell -/
theorem PH.voteStep (p : PH B hb w V c v h) {g n cap : Nat} (hv : v (.motions d) = .slice (some ⟨g, 0, none⟩) n cap) (i : Nat) (hi : i < (h.led d).motions.length) (b : Int) (u : Value)
    (hg : w.grownBy w' (v (.voted d i)).ownBlock) (ho : Own w' B 3 1 encI u ((h.led d).motions[i].voted ++ [b])) (hat : u.ownBlock = (v (.voted d i)).ownBlock ∨ ∀ b, u.ownBlock = some b → w.heap.size ≤ b) :
    PH B hb (w'.setCell ⟨g, i * 8 + 6, none⟩ u) V c (updV v (.voted d i) u) (h.put d { h.led d with motions := (h.led d).motions.set i { (h.led d).motions[i] with voted := (h.led d).motions[i].voted ++ [b] } }) ∧ Fr hb v (updV v (.voted d i) u) w (w'.setCell ⟨g, i * 8 + 6, none⟩ u) := by
  have own := p.rows.motions d
  have hnm : (v (.voted d i)).ownBlock = none ∨ (v (.motions d)).ownBlock ≠ (v (.voted d i)).ownBlock := by
    cases hq : (v (.voted d i)).ownBlock with
    | none => exact .inl rfl
    | some q => exact .inr fun e => p.rows.ap (.motions d) (.voted d i) q (by simp) (by rw [rowOf_v]; exact e) (by rw [rowOf_v]; exact hq)
  have hneh : (v (.voted d i)).ownBlock ≠ some hb := fun e => p.rows.hb (.voted d i) hb (by rw [rowOf_v]; exact e) rfl
  have hneh2 : (v (.motions d)).ownBlock ≠ some hb := fun e => p.rows.hb (.motions d) hb (by rw [rowOf_v]; exact e) rfl
  have own1 : Own w' B 52 8 encVM (v (.motions d)) (zipV (fun i => v (.voted d i)) 0 (h.led d).motions) := by
    refine World.ownsRow.kept own hg ?_
    rcases hnm with h1 | h1
    · rw [h1]; right; rw [hv]; simp [Value.ownBlock]
    · exact .inr h1
  rw [hv] at own1
  have st := Own.setAt (sz := 8) (enc := encVM) (fun _ => rfl) own1 i (by rw [zipV_len]; exact hi) 6 (by omega) u (u, { (h.led d).motions[i] with voted := (h.led d).motions[i].voted ++ [b] }) (by rw [zipV_at _ _ _ _ hi]; rfl)
  have hg2 : w'.grownBy (w'.setCell ⟨g, i * 8 + 6, none⟩ u) (v (.motions d)).ownBlock := by rw [hv]; exact st.2
  have F := ((Fr.refl hb v w).row (.voted d i) u hg hat).same (.motions d) (w2 := w'.setCell ⟨g, i * 8 + 6, none⟩ u) (by rw [updV_ne _ _ (by simp)]; exact hg2)
  have K := p.kp F
  refine ⟨⟨p.rows.addVote p.lt i hi b u hg ho hat _ hg2 (by rw [hv]; exact st.1), p.low, ?_, p.c.kp K⟩, F⟩
  have hc : pCells V c (updV v (.voted d i) u) (h.put d { h.led d with motions := (h.led d).motions.set i { (h.led d).motions[i] with voted := (h.led d).motions[i].voted ++ [b] } }) = pCells V c v h := by
    cases d <;> simp [pCells, updV, House.put, House.led]
  rw [hc]
  exact (hg2.block hb (Nat.lt_of_lt_of_le p.lt hg.size) (fun e => hneh2 e.symm)).trans ((hg.block hb p.lt (fun e => hneh e.symm)).trans p.blk)
theorem RH_facts_cells (fs : List Known) (u : Value) : (rCells v h).setIfInBounds (rD d + 1) u = rCells (updV v (.facts d) u) (h.put d { h.led d with facts := fs }) := by
  cases d <;> simp [rCells, updV, House.put, House.led, rD]
theorem RH.factsStep (p : RH B hb w v h) (fs : List Known) (u : Value) (hg : w.grownBy w' (v (.facts d)).ownBlock) (ho : Own w' B 68 6 encKnown u fs)
    (hat : u.ownBlock = (v (.facts d)).ownBlock ∨ ∀ b, u.ownBlock = some b → w.heap.size ≤ b) :
    RH B hb (w'.setCell ⟨hb, rD d + 1, none⟩ u) (updV v (.facts d) u) (h.put d { h.led d with facts := fs }) ∧ Fr hb v (updV v (.facts d) u) w (w'.setCell ⟨hb, rD d + 1, none⟩ u) := by
  have hne : (v (.facts d)).ownBlock ≠ some hb := fun e => p.rows.hb (.facts d) hb (by rw [rowOf_v]; exact e) rfl
  have F := ((Fr.refl hb v w).row (.facts d) u hg hat).setH (rD d + 1) u
  have K := p.kp F
  refine ⟨⟨(p.rows.setFacts p.lt fs u hg ho hat).kp (setH_kp w' hb _ u), p.low, ?_⟩, F⟩
  rw [← RH_facts_cells fs u]
  exact p.blk.setH hg hne _ u
theorem RH_sent_cells (fs : List Alarm) (u : Value) : (rCells v h).setIfInBounds (rD d + 3) u = rCells (updV v (.sent d) u) (h.put d { h.led d with sent := fs }) := by
  cases d <;> simp [rCells, updV, House.put, House.led, rD]
theorem RH.sentStep (p : RH B hb w v h) (fs : List Alarm) (u : Value) (hg : w.grownBy w' (v (.sent d)).ownBlock) (ho : Own w' B 106 4 encAlarm u fs)
    (hat : u.ownBlock = (v (.sent d)).ownBlock ∨ ∀ b, u.ownBlock = some b → w.heap.size ≤ b) :
    RH B hb (w'.setCell ⟨hb, rD d + 3, none⟩ u) (updV v (.sent d) u) (h.put d { h.led d with sent := fs }) ∧ Fr hb v (updV v (.sent d) u) w (w'.setCell ⟨hb, rD d + 3, none⟩ u) := by
  have hne : (v (.sent d)).ownBlock ≠ some hb := fun e => p.rows.hb (.sent d) hb (by rw [rowOf_v]; exact e) rfl
  have F := ((Fr.refl hb v w).row (.sent d) u hg hat).setH (rD d + 3) u
  have K := p.kp F
  refine ⟨⟨(p.rows.setSent p.lt fs u hg ho hat).kp (setH_kp w' hb _ u), p.low, ?_⟩, F⟩
  rw [← RH_sent_cells fs u]
  exact p.blk.setH hg hne _ u
theorem RH_motions_cells (m : Motion) (u : Value) : (rCells v h).setIfInBounds (rD d + 2) u = rCells (updV (updV v (.voted d (h.led d).motions.length) (.slice none 0 0)) (.motions d) u) (h.put d { h.led d with motions := (h.led d).motions ++ [m] }) := by
  cases d <;> simp [rCells, updV, House.put, House.led, rD]
theorem RH.motionStep (p : RH B hb w v h) (m : Motion) (hm : m.voted = []) (u : Value) (hg : w.grownBy w' (v (.motions d)).ownBlock)
    (ho : Own w' B 52 8 encVM u (zipV (fun i => v (.voted d i)) 0 (h.led d).motions ++ [(Value.slice none 0 0, m)]))
    (hat : u.ownBlock = (v (.motions d)).ownBlock ∨ ∀ b, u.ownBlock = some b → w.heap.size ≤ b) :
    RH B hb (w'.setCell ⟨hb, rD d + 2, none⟩ u) (updV (updV v (.voted d (h.led d).motions.length) (.slice none 0 0)) (.motions d) u) (h.put d { h.led d with motions := (h.led d).motions ++ [m] }) ∧ Fr hb v (updV (updV v (.voted d (h.led d).motions.length) (.slice none 0 0)) (.motions d) u) w (w'.setCell ⟨hb, rD d + 2, none⟩ u) := by
  have hne : (v (.motions d)).ownBlock ≠ some hb := fun e => p.rows.hb (.motions d) hb (by rw [rowOf_v]; exact e) rfl
  have e0 : updV v (.voted d (h.led d).motions.length) (.slice none 0 0) (.motions d) = v (.motions d) := updV_ne _ _ (by simp)
  have F := (((Fr.refl hb v w).nilRow (.voted d (h.led d).motions.length)).row (.motions d) u (by rw [e0]; exact hg) (by rw [e0]; exact hat)).setH (rD d + 2) u
  have K := p.kp F
  refine ⟨⟨(p.rows.addMotion p.lt m hm u hg ho hat).kp (setH_kp w' hb _ u), p.low, ?_⟩, F⟩
  rw [← RH_motions_cells m u]
  exact p.blk.setH hg hne _ u
theorem RH_same_cells (ms : List Motion) : rCells v h = rCells v (h.put d { h.led d with motions := ms }) := by
  cases d <;> rfl
theorem RH.motSame (p : RH B hb w v h) (ms : List Motion) (hms : ∀ j, vOf ms[j]? = votedOf (h.led d) j) (hg : w.grownBy w' (v (.motions d)).ownBlock)
    (ho : Own w' B 52 8 encVM (v (.motions d)) (zipV (fun i => v (.voted d i)) 0 ms)) :
    RH B hb w' v (h.put d { h.led d with motions := ms }) ∧ Fr hb v v w w' := by
  have hne : (v (.motions d)).ownBlock ≠ some hb := fun e => p.rows.hb (.motions d) hb (by rw [rowOf_v]; exact e) rfl
  have F := (Fr.refl hb v w).same (.motions d) hg
  have K := p.kp F
  refine ⟨⟨p.rows.setMotions p.lt ms hms hg ho, p.low, ?_⟩, F⟩
  rw [← RH_same_cells ms]
  exact (hg.block hb p.lt (fun e => hne e.symm)).trans p.blk
/-- one cell of a motion -/
theorem RH.motCell (p : RH B hb w v h) {g n cap : Nat} (hv : v (.motions d) = .slice (some ⟨g, 0, none⟩) n cap) (i : Nat) (hi : i < (h.led d).motions.length) (j : Nat) (hj : j < 8) (u : Value) (m : Motion) (hm : m.voted = (h.led d).motions[i].voted)
    (he : encMot (v (.voted d i)) m = (encMot (v (.voted d i)) (h.led d).motions[i]).set j u) :
    RH B hb (w.setCell ⟨g, i * 8 + j, none⟩ u) v (h.put d { h.led d with motions := (h.led d).motions.set i m }) ∧ Fr hb v v w (w.setCell ⟨g, i * 8 + j, none⟩ u) := by
  have own := p.rows.motions d
  rw [hv] at own
  have st := Own.setAt (sz := 8) (enc := encVM) (fun _ => rfl) own i (by rw [zipV_len]; exact hi) j hj u (v (.voted d i), m) (by rw [zipV_at _ _ _ _ hi, Nat.zero_add]; exact he)
  have e1 : (zipV (fun i => v (.voted d i)) 0 (h.led d).motions).set i (v (.voted d i), m) = zipV (fun i => v (.voted d i)) 0 ((h.led d).motions.set i m) := by rw [zipV_set, Nat.zero_add]
  rw [e1] at st
  refine p.motSame _ (fun k => ?_) (by rw [hv]; exact st.2) (by rw [hv]; exact st.1)
  unfold votedOf
  by_cases hk : k = i
  · subst hk; simp [hi, vOf, hm]
  · rw [List.getElem?_set_ne (Ne.symm hk)]
/-- a vote more, its slice stored in the motion's cell -/
theorem RH.voteStep (p : RH B hb w v h) {g n cap : Nat} (hv : v (.motions d) = .slice (some ⟨g, 0, none⟩) n cap) (i : Nat) (hi : i < (h.led d).motions.length) (b : Int) (u : Value)
    (hg : w.grownBy w' (v (.voted d i)).ownBlock) (ho : Own w' B 3 1 encI u ((h.led d).motions[i].voted ++ [b])) (hat : u.ownBlock = (v (.voted d i)).ownBlock ∨ ∀ b, u.ownBlock = some b → w.heap.size ≤ b) :
    RH B hb (w'.setCell ⟨g, i * 8 + 6, none⟩ u) (updV v (.voted d i) u) (h.put d { h.led d with motions := (h.led d).motions.set i { (h.led d).motions[i] with voted := (h.led d).motions[i].voted ++ [b] } }) ∧ Fr hb v (updV v (.voted d i) u) w (w'.setCell ⟨g, i * 8 + 6, none⟩ u) := by
  have own := p.rows.motions d
  have hnm : (v (.voted d i)).ownBlock = none ∨ (v (.motions d)).ownBlock ≠ (v (.voted d i)).ownBlock := by
    cases hq : (v (.voted d i)).ownBlock with
    | none => exact .inl rfl
    | some q => exact .inr fun e => p.rows.ap (.motions d) (.voted d i) q (by simp) (by rw [rowOf_v]; exact e) (by rw [rowOf_v]; exact hq)
  have hneh : (v (.voted d i)).ownBlock ≠ some hb := fun e => p.rows.hb (.voted d i) hb (by rw [rowOf_v]; exact e) rfl
  have hneh2 : (v (.motions d)).ownBlock ≠ some hb := fun e => p.rows.hb (.motions d) hb (by rw [rowOf_v]; exact e) rfl
  have own1 : Own w' B 52 8 encVM (v (.motions d)) (zipV (fun i => v (.voted d i)) 0 (h.led d).motions) := by
    refine World.ownsRow.kept own hg ?_
    rcases hnm with h1 | h1
    · rw [h1]; right; rw [hv]; simp [Value.ownBlock]
    · exact .inr h1
  rw [hv] at own1
  have st := Own.setAt (sz := 8) (enc := encVM) (fun _ => rfl) own1 i (by rw [zipV_len]; exact hi) 6 (by omega) u (u, { (h.led d).motions[i] with voted := (h.led d).motions[i].voted ++ [b] }) (by rw [zipV_at _ _ _ _ hi]; rfl)
  have hg2 : w'.grownBy (w'.setCell ⟨g, i * 8 + 6, none⟩ u) (v (.motions d)).ownBlock := by rw [hv]; exact st.2
  have F := ((Fr.refl hb v w).row (.voted d i) u hg hat).same (.motions d) (w2 := w'.setCell ⟨g, i * 8 + 6, none⟩ u) (by rw [updV_ne _ _ (by simp)]; exact hg2)
  have K := p.kp F
  refine ⟨⟨p.rows.addVote p.lt i hi b u hg ho hat _ hg2 (by rw [hv]; exact st.1), p.low, ?_⟩, F⟩
  have hc : rCells (updV v (.voted d i) u) (h.put d { h.led d with motions := (h.led d).motions.set i { (h.led d).motions[i] with voted := (h.led d).motions[i].voted ++ [b] } }) = rCells v h := by
    cases d <;> simp [rCells, updV, House.put, House.led]
  rw [hc]
  exact (hg2.block hb (Nat.lt_of_lt_of_le p.lt hg.size) (fun e => hneh2 e.symm)).trans ((hg.block hb p.lt (fun e => hneh e.symm)).trans p.blk)
end
end Go.Proofs.YtogpgnljomchcaaGreat
