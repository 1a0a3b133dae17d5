/- What a deed of a house carries along; a fact in its place, in plain Lean and in memory. fact: the program. -/
import Derived.Test.YtogpgnljomchcaaGreatIns
import Derived.Test.YtogpgnljomchcaaGreatTree
import Derived.Test.YtogpgnljomchcaaGreatInv
import Derived.Deep.DeepCutAuto
import Derived.WideShapes
namespace Go.Proofs.YtogpgnljomchcaaGreat
open Go.RowKit

/-! ### Plain -/
theorem withK_set (k : Known) : ∀ (l : List Known) (i : Nat) (hi : i < l.length), l.Pairwise (fun a b => a.target < b.target) → l[i].target = k.target → withK k l = l.set i k
  | y :: r, 0, _, _, h => by
    have h0 : y.target = k.target := h
    unfold withK
    rw [if_pos h0]
    rfl
  | y :: r, i + 1, hi, hs, h => by
    have h1 := List.pairwise_cons.1 hs
    have hi' : i < r.length := by simpa using hi
    have h2 := h1.1 r[i] (List.getElem_mem hi')
    have h3 : r[i].target = k.target := h
    unfold withK
    rw [if_neg (by omega), if_neg (by omega), withK_set k r i hi' h1.2 h3]
    rfl
theorem withK_ins (k : Known) : ∀ (l : List Known) (j : Nat), j ≤ l.length → (∀ i (hi : i < l.length), i < j → l[i].target < k.target) → (∀ (hj : j < l.length), k.target < l[j].target) → withK k l = l.take j ++ k :: l.drop j
  | [], j, hj, _, _ => by
    have : j = 0 := by simpa using hj
    subst this
    rfl
  | y :: r, 0, _, _, h => by
    have h0 : k.target < y.target := h (by simp)
    unfold withK
    rw [if_neg (by omega), if_pos h0]
    rfl
  | y :: r, j + 1, hj, h1, h2 => by
    have h0 : y.target < k.target := h1 0 (by simp) (by omega)
    unfold withK
    rw [if_neg (by omega), if_neg (by omega), withK_ins k r j (by simpa using hj) (fun i hi hij => h1 (i + 1) (by simpa using hi) (by omega)) (fun hj' => h2 (by simpa using hj'))]
    rfl
/-- the first i motions as they are after the fact -/
def mixM (c : Council) (k : Known) (i : Nat) (ms : List Motion) : List Motion := (ms.take i).map (voidM c k) ++ ms.drop i
theorem mixM_zero (c : Council) (k : Known) (ms : List Motion) : mixM c k 0 ms = ms := by simp [mixM]
theorem mixM_all (c : Council) (k : Known) (ms : List Motion) : mixM c k ms.length ms = ms.map (voidM c k) := by simp [mixM]
theorem mixM_len (c : Council) (k : Known) (i : Nat) (ms : List Motion) : (mixM c k i ms).length = ms.length := by simp [mixM]; omega
theorem mixM_at (c : Council) (k : Known) (i : Nat) (ms : List Motion) (hi : i < ms.length) : (mixM c k i ms)[i]'(by rw [mixM_len]; exact hi) = ms[i] := by
  unfold mixM
  rw [List.getElem_append_right (by simp; omega)]
  simp [Nat.min_eq_left (Nat.le_of_lt hi)]
theorem mixM_succ (c : Council) (k : Known) (i : Nat) (ms : List Motion) (hi : i < ms.length) : mixM c k (i + 1) ms = (mixM c k i ms).set i (voidM c k ms[i]) := by
  unfold mixM
  rw [List.take_succ_eq_append_getElem hi, List.map_append, List.set_append_right _ _ (by simp; omega)]
  simp only [List.length_map, List.length_take, Nat.min_eq_left (Nat.le_of_lt hi), Nat.sub_self]
  rw [List.drop_eq_getElem_cons hi, List.set_cons_zero, List.map_singleton, List.append_assoc]
  rfl
theorem mixM_skip (c : Council) (k : Known) (i : Nat) (ms : List Motion) (hi : i < ms.length) (h : voidM c k ms[i] = ms[i]) : mixM c k (i + 1) ms = mixM c k i ms := by
  rw [mixM_succ c k i ms hi, h]
  conv => lhs; rw [← mixM_at c k i ms hi]
  exact List.set_getElem_self _
/-! ### In memory -/
/-- six cells of a row at once -/
def setK (w : World) (g o : Nat) (k : Known) : World := (((((w.setCell ⟨g, o, none⟩ (.int .i64 k.target)).setCell ⟨g, o + 1, none⟩ (.int .i64 k.level)).setCell ⟨g, o + 2, none⟩ (.int .i64 k.item)).setCell ⟨g, o + 3, none⟩ (.int .i64 k.chance.least)).setCell ⟨g, o + 4, none⟩ (.int .i64 k.chance.most)).setCell ⟨g, o + 5, none⟩ (.int .i64 k.chance.all)
theorem grown_trans {w w1 w2 : World} {row : Option Nat} (h : w.grownBy w1 row) (k : w1.grownBy w2 row) : w.grownBy w2 row :=
  ⟨k.os.trans h.os, k.tape.trans h.tape, k.output.trans h.output, Nat.le_trans h.size k.size, fun i hi hne => (k.block i (Nat.lt_of_lt_of_le hi h.size) hne).trans (h.block i hi hne)⟩
theorem Own.setKnown {w : World} {B g n cap : Nat} {xs : List Known} (h : Own w B 68 6 encKnown (.slice (some ⟨g, 0, none⟩) n cap) xs) (i : Nat) (hi : i < xs.length) (k : Known) :
    Own (setK w g (i * 6) k) B 68 6 encKnown (.slice (some ⟨g, 0, none⟩) n cap) (xs.set i k) ∧ w.grownBy (setK w g (i * 6) k) (some g) := by
  have a0 := Own.setAt (sz := 6) (enc := encKnown) (fun _ => rfl) h i hi 0 (by omega) (.int .i64 k.target) { xs[i] with target := k.target } rfl
  have a1 := Own.setAt (sz := 6) (enc := encKnown) (fun _ => rfl) a0.1 i (by simpa using hi) 1 (by omega) (.int .i64 k.level) { xs[i] with target := k.target, level := k.level } (by simp [encKnown])
  rw [List.set_set] at a1
  have a2 := Own.setAt (sz := 6) (enc := encKnown) (fun _ => rfl) a1.1 i (by simpa using hi) 2 (by omega) (.int .i64 k.item) { xs[i] with target := k.target, level := k.level, item := k.item } (by simp [encKnown])
  rw [List.set_set] at a2
  have a3 := Own.setAt (sz := 6) (enc := encKnown) (fun _ => rfl) a2.1 i (by simpa using hi) 3 (by omega) (.int .i64 k.chance.least) ⟨k.target, k.level, k.item, { xs[i].chance with least := k.chance.least }⟩ (by simp [encKnown])
  rw [List.set_set] at a3
  have a4 := Own.setAt (sz := 6) (enc := encKnown) (fun _ => rfl) a3.1 i (by simpa using hi) 4 (by omega) (.int .i64 k.chance.most) ⟨k.target, k.level, k.item, { xs[i].chance with least := k.chance.least, most := k.chance.most }⟩ (by simp [encKnown])
  rw [List.set_set] at a4
  have a5 := Own.setAt (sz := 6) (enc := encKnown) (fun _ => rfl) a4.1 i (by simpa using hi) 5 (by omega) (.int .i64 k.chance.all) k (by simp [encKnown])
  rw [List.set_set] at a5
  exact ⟨a5.1, grown_trans (grown_trans (grown_trans (grown_trans (grown_trans a0.2 a1.2) a2.2) a3.2) a4.2) a5.2⟩

theorem updV_self (v : Ky → Value) (k : Ky) : updV v k (v k) = v := funext fun j => by
  unfold updV
  split
  · rename_i e; rw [e]
  · rfl
theorem PH.factsSame {B hb : Nat} {w w' : World} {v : Ky → Value} {V : CV} {c : Council} {h : House} {d : Bool} (p : PH B hb w V c v h) (fs : List Known) (hg : w.grownBy w' (v (.facts d)).ownBlock) (ho : Own w' B 68 6 encKnown (v (.facts d)) fs) :
    PH B hb w' V c v (h.put d { h.led d with facts := fs }) ∧ Fr hb v v w w' := by
  have hne : (v (.facts d)).ownBlock ≠ some hb := fun e => p.rows.hb (.facts d) hb (by rw [rowOf_v]; exact e) rfl
  have F := (Fr.refl hb v w).same (.facts d) hg
  have K := p.kp F
  have r := p.rows.setFacts p.lt fs (v (.facts d)) hg ho (.inl rfl)
  rw [updV_self] at r
  have e1 : pCells V c v (h.put d { h.led d with facts := fs }) = pCells V c v h := by cases d <;> rfl
  refine ⟨⟨r, p.low, ?_, p.c.kp K⟩, F⟩
  rw [e1]
  exact (hg.block hb p.lt (fun e => hne e.symm)).trans p.blk
/-- a block of one's own beside a house -/
structure Lcl (hb : Nat) (v : Ky → Value) (w : World) (g : Nat) (t : TypeId) (cs : Array Value) : Prop where
  blk : Blk w g t cs
  apart : Apart hb v g
theorem Lcl.kpN {hb : Nat} {v : Ky → Value} {w w' : World} {g : Nat} {t : TypeId} {cs : Array Value} (h : Lcl hb v w g t cs) (k : Kp w.heap.size none w w') : Lcl hb v w' g t cs := ⟨h.blk.kpN k, h.apart⟩
theorem Lcl.fr {hb : Nat} {v v' : Ky → Value} {w w' : World} {g : Nat} {t : TypeId} {cs : Array Value} (h : Lcl hb v w g t cs) (f : Fr hb v v' w w') : Lcl hb v' w' g t cs := ⟨h.blk.fr f h.apart, h.apart.fr f h.blk.lt⟩
theorem PH.lcl {B hb : Nat} {w : World} {V : CV} {c : Council} {v : Ky → Value} {h : House} (p : PH B hb w V c v h) (t : TypeId) (cs : Array Value) : Lcl hb v (w.alloc (.cells cs t)) w.heap.size t cs :=
  ⟨Blk.new w t cs, p.rows.apartNew (Nat.le_refl _) p.lt⟩
theorem RH.lcl {B hb : Nat} {w : World} {v : Ky → Value} {h : House} (p : RH B hb w v h) (t : TypeId) (cs : Array Value) : Lcl hb v (w.alloc (.cells cs t)) w.heap.size t cs :=
  ⟨Blk.new w t cs, p.rows.apartNew (Nat.le_refl _) p.lt⟩
/-- in the course of a deed of the program's house -/
structure FS (B hb xb : Nat) (V : CV) (c : Council) (v0 v : Ky → Value) (h : House) (x : CItem) (w0 w : World) : Prop where
  p : PH B hb w V c v h
  x : Lcl hb v w xb 36 #[.int .i64 x.kind, .int .i64 x.tick, .bool x.drill, .int .i64 x.a, .int .i64 x.b, .bool x.yes, .int .i64 x.chance.least, .int .i64 x.chance.most, .int .i64 x.chance.all]
  f : Fr hb v0 v w0 w
section
variable {B hb xb : Nat} {V : CV} {c : Council} {v0 v v' : Ky → Value} {h h' : House} {x : CItem} {w0 w w' : World}
theorem FS.start (p : PH B hb w V c v h) (x : CItem) : FS B hb w.heap.size V c v v h x w (w.alloc (.cells #[.int .i64 x.kind, .int .i64 x.tick, .bool x.drill, .int .i64 x.a, .int .i64 x.b, .bool x.yes, .int .i64 x.chance.least, .int .i64 x.chance.most, .int .i64 x.chance.all] 36)) :=
  ⟨p.alloc _, p.lcl _ _, (Fr.refl hb v w).alloc _⟩
theorem FS.kpN (s : FS B hb xb V c v0 v h x w0 w) (k : Kp w.heap.size none w w') : FS B hb xb V c v0 v h x w0 w' := ⟨s.p.kpN k, s.x.kpN k, s.f.thenKp k⟩
theorem FS.drew (s : FS B hb xb V c v0 v h x w0 w) : FS B hb xb V c v0 v h x w0 w.drew := s.kpN (Kp.refl _ _ _).drew
theorem FS.alloc (s : FS B hb xb V c v0 v h x w0 w) (o : Obj) : FS B hb xb V c v0 v h x w0 (w.alloc o) := s.kpN (Kp.new _ o)
theorem FS.step (s : FS B hb xb V c v0 v h x w0 w) (q : PH B hb w' V c v' h' ∧ Fr hb v v' w w') : FS B hb xb V c v0 v' h' x w0 w' := ⟨q.1, s.x.fr q.2, s.f.trans q.2⟩
end
/-- a store in a block of one's own -/
theorem RowsAt.other {B hb : Nat} {w w' : World} {v : Ky → Value} {h : House} (hr : RowsAt B hb w (rowOf h v)) {g : Nat} (hg : w.grownBy w' (some g)) (ha : Apart hb v g) : RowsAt B hb w' (rowOf h v) :=
  ⟨fun k => World.ownsRow.kept (hr.own k) hg (.inr (by rw [rowOf_v]; exact ha.2 k)), hr.ap, hr.hb⟩
theorem grown_set (w : World) (g o : Nat) (u : Value) : w.grownBy (w.setCell ⟨g, o, none⟩ u) (some g) :=
  ⟨rfl, rfl, rfl, by simp [World.setCell], fun i _ hne => Below.heap_setCell _ _ _ _ (fun e => hne (by rw [e]))⟩
theorem PH.other {B hb g : Nat} {w w' : World} {V : CV} {c : Council} {v : Ky → Value} {h : House} (p : PH B hb w V c v h) (hg : w.grownBy w' (some g)) (ha : Apart hb v g) (hB : B ≤ g) : PH B hb w' V c v h :=
  ⟨p.rows.other hg ha, p.low, (hg.block hb p.lt (fun e => ha.1 (by injection e with e; exact e.symm))).trans p.blk, p.c.kp ⟨hg.os, hg.tape, hg.output, hg.size, fun k hk _ => hg.block k (by have := p.low; have := p.lt; omega) (fun e => by injection e with e; omega)⟩⟩
theorem Fr.other {hb g : Nat} {w w1 w2 : World} {v v1 : Ky → Value} (f : Fr hb v v1 w w1) (hg : w1.grownBy w2 (some g)) (h0 : w.heap.size ≤ g) : Fr hb v v1 w w2 :=
  ⟨hg.os.trans f.os, hg.tape.trans f.tape, hg.output.trans f.output, Nat.le_trans f.size hg.size, fun i hi ha => by
    obtain ⟨e1, a1⟩ := f.block i hi ha
    exact ⟨(hg.block i (Nat.lt_of_lt_of_le hi f.size) (fun e => by injection e with e; omega)).trans e1, a1⟩⟩
theorem Lcl.other {hb g b : Nat} {w w' : World} {v : Ky → Value} {t : TypeId} {cs : Array Value} (h : Lcl hb v w b t cs) (hg : w.grownBy w' (some g)) (hne : b ≠ g) : Lcl hb v w' b t cs :=
  ⟨(hg.block b h.blk.lt (fun e => hne (by injection e))).trans h.blk, h.apart⟩
theorem FS.other {B hb xb g : Nat} {V : CV} {c : Council} {v0 v : Ky → Value} {h : House} {x : CItem} {w0 w w' : World} (s : FS B hb xb V c v0 v h x w0 w) (hg : w.grownBy w' (some g)) (ha : Apart hb v g) (h0 : w0.heap.size ≤ g) (hne : xb ≠ g) (hB : B ≤ g) : FS B hb xb V c v0 v h x w0 w' :=
  ⟨s.p.other hg ha hB, s.x.other hg hne, s.f.other hg h0⟩
theorem FS.fresh {B hb xb : Nat} {V : CV} {c : Council} {v0 v : Ky → Value} {h : House} {x : CItem} {w0 w : World} (s : FS B hb xb V c v0 v h x w0 w) (t : TypeId) (cs : Array Value) :
    ∃ nb wq, wq = w.alloc (.cells cs t) ∧ nb = w.heap.size ∧ FS B hb xb V c v0 v h x w0 wq ∧ Lcl hb v wq nb t cs ∧ w0.heap.size ≤ nb ∧ xb ≠ nb ∧ B ≤ nb :=
  ⟨w.heap.size, _, rfl, rfl, s.alloc _, s.p.lcl _ _, s.f.size, by have := s.x.blk.lt; omega, by have := s.p.low; have := s.p.lt; omega⟩
/-- the six cells of a block -/
def setK0 (w : World) (g : Nat) (k : Known) : World := (((((w.setCell ⟨g, 0, none⟩ (.int .i64 k.target)).setCell ⟨g, 1, none⟩ (.int .i64 k.level)).setCell ⟨g, 2, none⟩ (.int .i64 k.item)).setCell ⟨g, 3, none⟩ (.int .i64 k.chance.least)).setCell ⟨g, 4, none⟩ (.int .i64 k.chance.most)).setCell ⟨g, 5, none⟩ (.int .i64 k.chance.all)
theorem setK0_grown (w : World) (g : Nat) (k : Known) : w.grownBy (setK0 w g k) (some g) :=
  grown_trans (grown_trans (grown_trans (grown_trans (grown_trans (grown_set _ _ _ _) (grown_set _ _ _ _)) (grown_set _ _ _ _)) (grown_set _ _ _ _)) (grown_set _ _ _ _)) (grown_set _ _ _ _)
theorem Blk.setK0 {w : World} {g : Nat} {t : TypeId} {x0 x1 x2 x3 x4 x5 : Value} (h : Blk w g t #[x0, x1, x2, x3, x4, x5]) (k : Known) : Blk (setK0 w g k) g t #[.int .i64 k.target, .int .i64 k.level, .int .i64 k.item, .int .i64 k.chance.least, .int .i64 k.chance.most, .int .i64 k.chance.all] := by
  have := (((((h.set_ 0 (.int .i64 k.target)).set_ 1 (.int .i64 k.level)).set_ 2 (.int .i64 k.item)).set_ 3 (.int .i64 k.chance.least)).set_ 4 (.int .i64 k.chance.most)).set_ 5 (.int .i64 k.chance.all)
  unfold Go.Proofs.YtogpgnljomchcaaGreat.setK0
  simpa using this
/-- the five cells of a law -/
def setL0 (w : World) (g : Nat) (k : LawC) : World := ((((w.setCell ⟨g, 0, none⟩ (.int .i64 k.act)).setCell ⟨g, 1, none⟩ (.int .i64 k.level)).setCell ⟨g, 2, none⟩ (.int .i64 k.window)).setCell ⟨g, 3, none⟩ (.int .i64 k.quorum)).setCell ⟨g, 4, none⟩ (.int .i64 k.share)
theorem setL0_grown (w : World) (g : Nat) (k : LawC) : w.grownBy (setL0 w g k) (some g) :=
  grown_trans (grown_trans (grown_trans (grown_trans (grown_set _ _ _ _) (grown_set _ _ _ _)) (grown_set _ _ _ _)) (grown_set _ _ _ _)) (grown_set _ _ _ _)
theorem Blk.setL0 {w : World} {g : Nat} {t : TypeId} {x0 x1 x2 x3 x4 : Value} (h : Blk w g t #[x0, x1, x2, x3, x4]) (k : LawC) : Blk (setL0 w g k) g t #[.int .i64 k.act, .int .i64 k.level, .int .i64 k.window, .int .i64 k.quorum, .int .i64 k.share] := by
  have := ((((h.set_ 0 (.int .i64 k.act)).set_ 1 (.int .i64 k.level)).set_ 2 (.int .i64 k.window)).set_ 3 (.int .i64 k.quorum)).set_ 4 (.int .i64 k.share)
  unfold Go.Proofs.YtogpgnljomchcaaGreat.setL0
  simpa using this
/-! ### The motions of a house -/
theorem PH.motAt {B hb : Nat} {w : World} {V : CV} {c : Council} {v : Ky → Value} {h : House} {d : Bool} (p : PH B hb w V c v h) {g n cap : Nat} (hv : v (.motions d) = .slice (some ⟨g, 0, none⟩) n cap) (i : Nat) (hi : i < (h.led d).motions.length) :
    (∀ j u, (encMot (v (.voted d i)) (h.led d).motions[i])[j]? = some u → w.cell? ⟨g, i * 8 + j, none⟩ = some u) ∧ (∀ j, w.frozen? ⟨g, j, none⟩ = false) ∧ g < w.heap.size ∧ g ≠ hb ∧ B ≤ g := by
  have own := p.rows.motions d
  rw [hv] at own
  obtain ⟨A, cap', e, rd, -⟩ := own.rd0 (fun _ => rfl)
  simp only [Value.slice.injEq] at e
  obtain ⟨rfl, rfl, rfl⟩ := e
  have hge := own.ge g rfl
  refine ⟨fun j u hj => ?_, fun j => World.ownsRow.frozenAt own j, hge.2, fun e => p.rows.hb (.motions d) hb (by rw [rowOf_v, hv, ← e]; rfl) rfl, hge.1⟩
  have hz : i < (zipV (fun i => v (.voted d i)) 0 (h.led d).motions).length := by rw [zipV_len]; exact hi
  obtain ⟨b, o', e2, -, -, hcc⟩ := rd.at_ (by omega)
  simp only [Option.some.injEq, Addr.mk.injEq] at e2
  obtain ⟨rfl, rfl, -⟩ := e2
  have := hcc i hz j u (by rw [zipV_at _ _ _ _ hi, Nat.zero_add]; exact hj)
  rwa [Nat.zero_add] at this
theorem PH.motForm {B hb : Nat} {w : World} {V : CV} {c : Council} {v : Ky → Value} {h : House} (p : PH B hb w V c v h) (d : Bool) : ∃ A cap, v (.motions d) = .slice A (h.led d).motions.length cap ∧ (0 < (h.led d).motions.length → ∃ g, A = some ⟨g, 0, none⟩) := by
  obtain ⟨A, cap, e, -, hA⟩ := (p.rows.motions d).rd0 (fun _ => rfl)
  rw [zipV_len] at e
  refine ⟨A, cap, e, fun h0 => ?_⟩
  rcases hA with ⟨-, hz, -⟩ | ⟨g, rfl, -⟩
  · have := congrArg List.length hz
    rw [zipV_len] at this
    simp at this
    rw [this] at h0
    simp at h0
  · exact ⟨g, rfl⟩
theorem put_put (h : House) (d : Bool) (l l' : Ledger) : (h.put d l).put d l' = h.put d l' := by cases d <;> rfl
theorem put_led (h : House) (d : Bool) (l : Ledger) : (h.put d l).led d = l := by cases d <;> rfl
/-- the ledger of a fact whose first i motions are done -/
def mixL (c : Council) (own : Ledger) (x : CItem) (k : Known) (i : Nat) : Ledger :=
  { items := own.items, facts := withK k own.facts, motions := mixM c k i own.motions, sent := sendA x (beforeL own x.a) k.level own.sent }
theorem mixL_all (c : Council) (own : Ledger) (x : CItem) : mixL c own x (newK c own x) own.motions.length = factL c own x := by
  unfold mixL factL
  rw [mixM_all]
/-- state and fact of a motion -/
theorem PH.motEnd {B hb : Nat} {w : World} {V : CV} {c : Council} {v : Ky → Value} {h : House} {d : Bool} (p : PH B hb w V c v h) {g n cap : Nat} (hv : v (.motions d) = .slice (some ⟨g, 0, none⟩) n cap) (i : Nat) (hi : i < (h.led d).motions.length) (s f : Int) :
    PH B hb ((w.setCell ⟨g, i * 8 + 3, none⟩ (.int .i64 s)).setCell ⟨g, i * 8 + 7, none⟩ (.int .i64 f)) V c v (h.put d { h.led d with motions := (h.led d).motions.set i { (h.led d).motions[i] with state := s, fact := f } }) ∧
      Fr hb v v w ((w.setCell ⟨g, i * 8 + 3, none⟩ (.int .i64 s)).setCell ⟨g, i * 8 + 7, none⟩ (.int .i64 f)) := by
  have a := p.motCell hv i hi 3 (by omega) (.int .i64 s) { (h.led d).motions[i] with state := s } rfl rfl
  have e1 : ∀ l : Ledger, ((h.put d l).led d) = l := fun l => put_led h d l
  have hi2 : i < ((h.put d { h.led d with motions := (h.led d).motions.set i { (h.led d).motions[i] with state := s } }).led d).motions.length := by rw [e1]; simpa using hi
  have hm2 : ((h.put d { h.led d with motions := (h.led d).motions.set i { (h.led d).motions[i] with state := s } }).led d).motions[i] = { (h.led d).motions[i] with state := s } := by
    simp only [e1, List.getElem_set_self]
  have b := a.1.motCell hv i hi2 7 (by omega) (.int .i64 f) { (h.led d).motions[i] with state := s, fact := f } (by rw [hm2]) (by rw [hm2]; rfl)
  rw [put_put, e1] at b
  simp only [List.set_set] at b
  exact ⟨b.1, a.2.trans b.2⟩
theorem voidM_not (c : Council) (k : Known) (m : Motion) (h : ¬ (m.state = 1 ∧ m.target = k.target ∧ k.level < (lawD c m.act).level)) : voidM c k m = m := if_neg h
theorem voidM_yes (c : Council) (k : Known) (m : Motion) (h : m.state = 1 ∧ m.target = k.target ∧ k.level < (lawD c m.act).level) : voidM c k m = { m with state := 4, fact := k.item } := if_pos h
theorem mixL_skip (c : Council) (own : Ledger) (x : CItem) (k : Known) (i : Nat) (hi : i < own.motions.length) (h : voidM c k own.motions[i] = own.motions[i]) : mixL c own x k (i + 1) = mixL c own x k i := by
  unfold mixL
  rw [mixM_skip c k i _ hi h]
theorem mixL_succ (c : Council) (own : Ledger) (x : CItem) (k : Known) (i : Nat) (hi : i < own.motions.length) :
    mixL c own x k (i + 1) = { mixL c own x k i with motions := (mixL c own x k i).motions.set i (voidM c k own.motions[i]) } := by
  unfold mixL
  rw [mixM_succ c k i _ hi]
theorem set_end (L L' : Ledger) (e : L' = L) (i : Nat) (hi : i < L'.motions.length) (m : Motion) (hm : L'.motions[i] = m) (s f : Int) :
    ({ L' with motions := L'.motions.set i { L'.motions[i] with state := s, fact := f } } : Ledger) = { L with motions := L.motions.set i { m with state := s, fact := f } } := by
  subst e
  rw [hm]
end Go.Proofs.YtogpgnljomchcaaGreat
namespace Go.Proofs.YtogpgnljomchcaaGreat
open Go.RowKit

def DeedPost (B hb : Nat) (V : CV) (c : Council) (v : Ky → Value) (h : House) (x : CItem) (E : Int) (L : Ledger) (w : World) (e : Ending) (w' : World) : Prop :=
  e = .returned (.int .i64 E) ∧ ∃ v', PH B hb w' V c v' (if E = 0 then h.put x.drill L else h) ∧ Fr hb v v' w w'
theorem DeedPost.err {B hb xb : Nat} {V : CV} {c : Council} {v v' : Ky → Value} {h : House} {x : CItem} {E : Int} {L : Ledger} {w w' : World} {n : Int} (s : FS B hb xb V c v v' h x w w') (hn : n = E) (h0 : E ≠ 0) : DeedPost B hb V c v h x E L w (.returned (.int .i64 n)) w' :=
  ⟨by rw [hn], v', by rw [if_neg h0]; exact s.p, s.f⟩
theorem DeedPost.fin {B hb xb : Nat} {V : CV} {c : Council} {v v' : Ky → Value} {h : House} {x : CItem} {E : Int} {L : Ledger} {w w' : World} (s : FS B hb xb V c v v' (h.put x.drill L) x w w') (h0 : E = 0) : DeedPost B hb V c v h x E L w (.returned (.int .i64 0)) w' :=
  ⟨by rw [h0], v', by rw [if_pos h0]; exact s.p, s.f⟩

theorem knownP {A : Option Addr} {fs : List Known} {t : Int} {w w' : World} {e : Ending} (h : KnownPost A fs t w e w') : ∃ P, e = .returned (.pointer P) ∧
    ((P = none ∧ fs.find? (fun k => k.target == t) = none) ∨ ∃ (g i : Nat) (hi : i < fs.length), A = some ⟨g, 0, none⟩ ∧ P = some ⟨g, i * 6, none⟩ ∧ fs.find? (fun k => k.target == t) = some fs[i] ∧ fs[i].target = t ∧ ∀ j (hj : j < i), fs[j].target ≠ t) ∧ Kp w.heap.size none w w' := by
  rcases h with ⟨⟨rfl, h⟩ | ⟨g, i, hi, hA, rfl, h1, h2, h3⟩, hk⟩
  · exact ⟨_, rfl, .inl ⟨rfl, h⟩, hk⟩
  · exact ⟨_, rfl, .inr ⟨g, i, hi, hA, rfl, h1, h2, h3⟩, hk⟩
def AtNew (B hb xb : Nat) (V : CV) (c : Council) (v : Ky → Value) (h : House) (x : CItem) (k : Known) (w : World) (v8 : Value) (wx : World) : Prop :=
  ∃ nb, v8 = .pointer (some ⟨nb, 0, none⟩) ∧ FS B hb xb V c v v h x w wx ∧ Lcl hb v wx nb 68 #[.int .i64 k.target, .int .i64 k.level, .int .i64 k.item, .int .i64 k.chance.least, .int .i64 k.chance.most, .int .i64 k.chance.all] ∧ w.heap.size ≤ nb ∧ xb ≠ nb
def AtPut (B hb xb : Nat) (V : CV) (c : Council) (v : Ky → Value) (h : House) (x : CItem) (k : Known) (nb : Nat) (w : World) (v9 : Value) (wx : World) : Prop :=
  ∃ v', v9 = .int .i64 (beforeL (h.led x.drill) x.a) ∧ FS B hb xb V c v v' (h.put x.drill { h.led x.drill with facts := withK k (h.led x.drill).facts }) x w wx ∧ Lcl hb v' wx nb 68 #[.int .i64 k.target, .int .i64 k.level, .int .i64 k.item, .int .i64 k.chance.least, .int .i64 k.chance.most, .int .i64 k.chance.all]
def AtLaw (B hb xb : Nat) (V : CV) (c : Council) (v0 v2 : Ky → Value) (h : House) (x : CItem) (k : Known) (i nb : Nat) (m : Motion) (w : World) (v14 : Value) (wx : World) : Prop :=
  ∃ lb, v14 = .pointer (some ⟨lb, 0, none⟩) ∧ FS B hb xb V c v0 v2 (h.put x.drill (mixL c (h.led x.drill) x k i)) x w wx ∧ Lcl hb v2 wx nb 68 #[.int .i64 k.target, .int .i64 k.level, .int .i64 k.item, .int .i64 k.chance.least, .int .i64 k.chance.most, .int .i64 k.chance.all] ∧ Lcl hb v2 wx lb 101 #[.int .i64 (lawD c m.act).act, .int .i64 (lawD c m.act).level, .int .i64 (lawD c m.act).window, .int .i64 (lawD c m.act).quorum, .int .i64 (lawD c m.act).share] ∧ nb ≠ lb
def FactAt (B hb xb : Nat) (V : CV) (c : Council) (v0 v2 : Ky → Value) (h : House) (x : CItem) (k : Known) (nb nm : Nat) (w : World) (v : Value) (wr : World) : Prop :=
  ∃ i : Nat, v = .int .i64 i ∧ i ≤ nm ∧ FS B hb xb V c v0 v2 (h.put x.drill (mixL c (h.led x.drill) x k i)) x w wr ∧ Lcl hb v2 wr nb 68 #[.int .i64 k.target, .int .i64 k.level, .int .i64 k.item, .int .i64 k.chance.least, .int .i64 k.chance.most, .int .i64 k.chance.all]
set_option maxRecDepth 20000 in
set_option maxHeartbeats 40000000 in
theorem fact_any (B hb n : Nat) (V : CV) (c : Council) (v : Ky → Value) (h : House) (x : CItem) (w : World) (p : PH B hb w V c v h) (hc : CouncilOk c) (hk : HouseOk c n h) (hn : n ≤ 4000) :
    Calls Tryz.prog 68 #[.pointer (some ⟨hb, 0, none⟩), .agg #[.int .i64 x.kind, .int .i64 x.tick, .bool x.drill, .int .i64 x.a, .int .i64 x.b, .bool x.yes, .int .i64 x.chance.least, .int .i64 x.chance.most, .int .i64 x.chance.all]] w (DeedPost B hb V c v h x (factE x) (factL c (h.led x.drill) x) w) := by
  have S := FS.start p x
  have hhw : hb < w.heap.size := p.lt
  have hBw : B ≤ w.heap.size := by have := p.low; omega
  obtain ⟨xb, hxb⟩ : ∃ q, q = w.heap.size := ⟨_, rfl⟩
  obtain ⟨E, hE⟩ : ∃ q, q = factE x := ⟨_, rfl⟩
  rw [← hE]
  replace hE := Lib.hid hE
  obtain ⟨o, ho⟩ : ∃ q, q = oD x.drill := ⟨_, rfl⟩
  replace ho := Lib.hid ho
  replace hc := Lib.hid hc
  replace hk := Lib.hid hk
  go_enter Tryz.func68, Tryz.ntmps68
  go_upto_region 1 with (fail)
  rw [← hxb] at S ⊢
  have hxw : w.heap.size ≤ xb := by omega
  replace hxb := Lib.hid hxb
  generalize w.alloc (.cells #[.int .i64 x.kind, .int .i64 x.tick, .bool x.drill, .int .i64 x.a, .int .i64 x.b, .bool x.yes, .int .i64 x.chance.least, .int .i64 x.chance.most, .int .i64 x.chance.all] 36) = w1 at S ⊢
  have cx := fun i => S.x.blk.cell i
  have er : ∀ n, 2 = n → n = E → 2 = E := fun n a b => a.trans b
  clear er
  by_cases h1 : x.a < 1
  · have e1 := Lib.hid (show 2 = E by rw [hE.out]; unfold factE; rw [if_pos (.inl h1)])
    go_wp2
    go_ret
    exact DeedPost.err S e1.out (by rw [← e1.out]; decide)
  by_cases h2 : 999 < x.a
  · have e1 := Lib.hid (show 2 = E by rw [hE.out]; unfold factE; rw [if_pos (.inr h2)])
    go_wp2
    go_ret
    exact DeedPost.err S e1.out (by rw [← e1.out]; decide)
  have hE2 := Lib.hid (show E = chanceErr x.chance by rw [hE.out]; unfold factE; rw [if_neg (by omega)])
  clear hE
  go_wp2_with fail
  refine (council_CheckChance_any x.chance _).mono ?_
  rintro e w2 ⟨rfl, k2⟩
  replace S := S.kpN k2
  clear k2 cx
  have cx := fun i => S.x.blk.cell i
  by_cases h3 : chanceErr x.chance = 0
  case neg =>
    have h3' : ¬ (0 = chanceErr x.chance) := fun e => h3 e.symm
    generalize chanceErr x.chance = ce at h3 h3' hE2 ⊢
    go_wp2
    go_ret
    exact DeedPost.err S hE2.out.symm (by rw [hE2.out]; exact h3)
  replace hE2 := Lib.hid (show E = 0 by rw [hE2.out, h3])
  rw [h3]
  replace h3 := Lib.hid h3
  go_wp2_with fail
  refine (books_any hb x.drill _).mono ?_
  rintro e w3 ⟨rfl, k3⟩
  replace S := S.kpN k3
  clear k3 cx
  have cx := fun i => S.x.blk.cell i
  rw [← ho.out]
  go_upto_region 7 with (fail)
  go_cut [8] (fun v8 wx => AtNew B hb xb V c v h x (newK c (h.led x.drill) x) w v8 wx)
  case first =>
    clear cx
    replace S := S.drew
    obtain ⟨S0, hS⟩ : ∃ S0 : World → Prop, S0 = fun w' => Blk w' xb 36 #[.int .i64 x.kind, .int .i64 x.tick, .bool x.drill, .int .i64 x.a, .int .i64 x.b, .bool x.yes, .int .i64 x.chance.least, .int .i64 x.chance.most, .int .i64 x.chance.all] ∧ Blk w' hb 84 (pCells V c v h) := ⟨_, rfl⟩
    have hS0 : ∀ w', S0 w' ↔ (Blk w' xb 36 #[.int .i64 x.kind, .int .i64 x.tick, .bool x.drill, .int .i64 x.a, .int .i64 x.b, .bool x.yes, .int .i64 x.chance.least, .int .i64 x.chance.most, .int .i64 x.chance.all] ∧ Blk w' hb 84 (pCells V c v h)) := fun w' => by rw [hS]
    clear hS
    have cx := fun (q : Ev S0) i => ((hS0 _).1 q.h).1.cell i
    have c0 : ∀ q : Ev S0, q.w.cell? ⟨hb, 0, none⟩ = some (.slice V.am c.members.length V.cm) := fun q => ((hS0 _).1 q.h).2.cell 0
    have c1 : ∀ q : Ev S0, q.w.cell? ⟨hb, 1, none⟩ = some (.slice V.al c.laws.length V.cl) := fun q => ((hS0 _).1 q.h).2.cell 1
    have c2 : ∀ q : Ev S0, q.w.cell? ⟨hb, 2, none⟩ = some (.slice V.av c.levels.length V.cv) := fun q => ((hS0 _).1 q.h).2.cell 2
    have ci : ∀ q : Ev S0, q.w.cell? ⟨hb, o + 1, none⟩ = some (.int .i64 (h.led x.drill).items) := fun q => by rw [ho.out]; exact (((hS0 _).1 q.h).2.cell _).trans (pCells_items V c v h x.drill)
    have hevT := ev_true
    refine wp_region_tr S0 (.st 0 0 (.st 1 1 (.st 2 0 (.st 3 0 (.st 4 0 (.st 5 1 (.st 6 0 (.st 7 1 (.st 9 0 (.st 10 0 (.st 11 0 (.st 12 1 (.st 13 0 (.st 14 1 (.b2 8 (.st 15 0 (.st 16 2 (.st 17 2 .nil))) 16 (.st 8 2 (.st 15 0 (.st 17 2 .nil)))))))))))))))))) (by kernel_rfl) (by kernel_rfl) ((hS0 _).2 ⟨S.x.blk, S.p.blk⟩) ?_
    intro _hev
    iterate 14 (first | (refine wpTr_v rfl rfl ?_; intro K hK; go_big_quiet_op; go_big_quiet_on) | (refine wpTr_q rfl rfl ?_; intro K hK; go_big_quiet_op; go_big_quiet_on) | refine wpTr_s rfl rfl ?_)
    refine wpTr_b2 ?_ ?_
    · refine wpOne_l rfl rfl ?_; intro K hK
      go_step
      refine (council_level_any x.chance B V c _ S.p.c hc.out.vlen hc.out.lev h3.out).mono ?_
      rintro e w5 ⟨rfl, k5⟩
      replace S := S.kpN k5
      try (replace NB := NB.kpN k5)
      refine hK _ _ ((hS0 _).2 ⟨S.x.blk, S.p.blk⟩) ?_
      clear hK K k5
      iterate 1 (first | (refine wpTr_v rfl rfl ?_; intro K hK; go_big_quiet_op; go_big_quiet_on) | (refine wpTr_q rfl rfl ?_; intro K hK; go_big_quiet_op; go_big_quiet_on) | refine wpTr_s rfl rfl ?_)
      refine wpTr_l rfl rfl ?_; intro K hK
      obtain ⟨nb, wq, hwq, hnb, S, NB, hn0, hnx, hBn⟩ := S.fresh 68 #[.int .i64 0, .int .i64 0, .int .i64 0, .int .i64 0, .int .i64 0, .int .i64 0]
      go_step
      first | rw [← hwq] | rw [show (World.alloc w3 (.cells #[.int .i64 0, .int .i64 0, .int .i64 0, .int .i64 0, .int .i64 0, .int .i64 0] 68)).drew = wq from hwq.symm]
      first | rw [← hnb] | rw [← show nb = w3.heap.size from hnb]
      replace hnb := Lib.hid hnb
      refine hK _ _ ((hS0 _).2 ⟨S.x.blk, S.p.blk⟩) ?_
      clear hK K hwq
      refine wpTr_l rfl rfl ?_; intro K hK
      have cN := fun i => NB.blk.cell i
      have fN := fun i => NB.blk.frozen i
      go_step
      have S2 := S.other (setK0_grown _ nb (newK c (h.led x.drill) x)) NB.apart hn0 hnx hBn
      have NB2 : Lcl hb v _ nb _ _ := ⟨Blk.setK0 NB.blk (newK c (h.led x.drill) x), NB.apart⟩
      clear cN fN
      change K _ (setK0 _ nb (newK c (h.led x.drill) x))
      generalize setK0 _ nb (newK c (h.led x.drill) x) = w7 at S2 NB2 ⊢
      refine hK _ _ ((hS0 _).2 ⟨S2.x.blk, S2.p.blk⟩) ?_
      clear hK K
      refine wpTr_nil ?_
      clear hevT _hev
      go_wp2_with fail
      go_meet
      case rel => exact ⟨nb, rfl, S2, NB2, hn0, hnx⟩
    · refine wpOne_l rfl rfl ?_; intro K hK
      obtain ⟨nb, wq, hwq, hnb, S, NB, hn0, hnx, hBn⟩ := S.fresh 68 #[.int .i64 0, .int .i64 0, .int .i64 0, .int .i64 0, .int .i64 0, .int .i64 0]
      go_step
      first | rw [← hwq] | rw [show (World.alloc w3 (.cells #[.int .i64 0, .int .i64 0, .int .i64 0, .int .i64 0, .int .i64 0, .int .i64 0] 68)).drew = wq from hwq.symm]
      first | rw [← hnb] | rw [← show nb = w3.heap.size from hnb]
      replace hnb := Lib.hid hnb
      refine hK _ _ ((hS0 _).2 ⟨S.x.blk, S.p.blk⟩) ?_
      clear hK K hwq
      refine wpTr_l rfl rfl ?_; intro K hK
      go_step
      refine (council_level_any x.chance B V c _ S.p.c hc.out.vlen hc.out.lev h3.out).mono ?_
      rintro e w5 ⟨rfl, k5⟩
      replace S := S.kpN k5
      try (replace NB := NB.kpN k5)
      refine hK _ _ ((hS0 _).2 ⟨S.x.blk, S.p.blk⟩) ?_
      clear hK K k5
      iterate 1 (first | (refine wpTr_v rfl rfl ?_; intro K hK; go_big_quiet_op; go_big_quiet_on) | (refine wpTr_q rfl rfl ?_; intro K hK; go_big_quiet_op; go_big_quiet_on) | refine wpTr_s rfl rfl ?_)
      refine wpTr_l rfl rfl ?_; intro K hK
      have cN := fun i => NB.blk.cell i
      have fN := fun i => NB.blk.frozen i
      go_step
      have S2 := S.other (setK0_grown _ nb (newK c (h.led x.drill) x)) NB.apart hn0 hnx hBn
      have NB2 : Lcl hb v _ nb _ _ := ⟨Blk.setK0 NB.blk (newK c (h.led x.drill) x), NB.apart⟩
      clear cN fN
      change K _ (setK0 _ nb (newK c (h.led x.drill) x))
      generalize setK0 _ nb (newK c (h.led x.drill) x) = w7 at S2 NB2 ⊢
      refine hK _ _ ((hS0 _).2 ⟨S2.x.blk, S2.p.blk⟩) ?_
      clear hK K
      refine wpTr_nil ?_
      clear hevT _hev
      go_wp2_with fail
      go_meet
      case rel => exact ⟨nb, rfl, S2, NB2, hn0, hnx⟩
  case rest =>
  rename World => w4
  obtain ⟨nb, rfl, S, NB, hn0, hnx⟩ := hcut
  obtain ⟨k, hkk⟩ : ∃ q, q = newK c (h.led x.drill) x := ⟨_, rfl⟩
  rw [← hkk] at NB
  replace hkk := Lib.hid hkk
  have cx := fun i => S.x.blk.cell i
  have cn := fun i => NB.blk.cell i
  have own := S.p.rows.facts x.drill
  obtain ⟨A, cap, ev, rd, gA⟩ := own.rd0 (fun _ => rfl)
  have hfl : (h.led x.drill).facts.length ≤ 4000 := by have := (hk.out.led x.drill).flen; omega
  have cf : w4.cell? ⟨hb, o + 2, none⟩ = some (.slice A (h.led x.drill).facts.length cap) := by
    rw [ho.out, ← ev]; exact (S.p.blk.cell _).trans (pCells_facts V c v h x.drill)
  go_wp2_with fail
  refine (known_any hb o A cap (h.led x.drill).facts x.a _ cf rd (by omega) (gA.imp_right fun ⟨g, e, _⟩ => ⟨g, e⟩)).mono ?_
  intro e w5 hp
  obtain ⟨P, rfl, hP, k5⟩ := knownP hp
  replace S := S.kpN k5
  replace NB := NB.kpN k5
  clear k5 cx cn cf rd own
  replace ev := Lib.hid ev
  replace gA := Lib.hid gA
  have cx := fun i => S.x.blk.cell i
  have cn := fun i => NB.blk.cell i
  replace hP := Lib.hid hP
  go_upto_if 58 with (fail)
  go_cut [9] (fun v9 wx => AtPut B hb xb V c v h x k nb w v9 wx)
  case first =>
    rcases hP.out with ⟨rfl, hfn⟩ | ⟨g, i, hi, hA, rfl, hf1, hf2, hf3⟩
    · have hkt := Lib.hid (show k.target = x.a by rw [hkk.out]; rfl)
      have hfn' : ∀ y ∈ (h.led x.drill).facts, y.target ≠ x.a := fun y hy e => by
        have := List.find?_eq_none.1 hfn y hy
        simp [e] at this
      have hb4 := Lib.hid (show beforeL (h.led x.drill) x.a = 0 by unfold beforeL knownOf; rw [hfn])
      have own := S.p.rows.facts x.drill
      have rd : Rd none w5 6 encKnown A (h.led x.drill).facts.length (h.led x.drill).facts := by
        obtain ⟨A', cap', e', rd', -⟩ := own.rd0 (fun _ => rfl)
        rw [ev.out] at e'
        simp only [Value.slice.injEq] at e'
        obtain ⟨rfl, -, rfl⟩ := e'
        exact rd'
      have cf : ∀ W, Kp w5.heap.size none w5 W → W.cell? ⟨hb, o + 2, none⟩ = some (.slice A (h.led x.drill).facts.length cap) := fun W kW => by
        rw [ho.out, ← ev.out]; exact ((S.p.kpN kW).blk.cell _).trans (pCells_facts V c v h x.drill)
      have cf5 := cf _ (Kp.refl _ _ _)
      have eg : ∀ args w, (callFunc 79 args).run Tryz.prog w = .ok (.enter 79 args) w := enters_of Tryz.func79 (by kernel_rfl) rfl
      have pr := fact1_pred xb x w5 S.x.blk
      clear own hP
      replace cf := Lib.hid cf
      go_wp2_with fail
      refine (indexKnown_any 79 _ (fun y => decide (x.a < y.target)) eg A cap _ w5 pr rd (by omega)).mono ?_
      rintro e w6 ⟨rfl, k6⟩
      have cf6 := cf.out _ k6
      replace S := S.kpN k6
      replace NB := NB.kpN k6
      clear cf cf5 rd pr eg cx cn k6
      have cn := fun i => NB.blk.cell i
      rcases idx_spec (fun y : Known => decide (x.a < y.target)) (h.led x.drill).facts 0 with ⟨h1, h2⟩ | ⟨i, hi, h1, h2, h3, h4⟩
      · have hJ := Lib.hid (show withK k (h.led x.drill).facts = (h.led x.drill).facts.take (h.led x.drill).facts.length ++ k :: (h.led x.drill).facts.drop (h.led x.drill).facts.length from
          withK_ins k _ _ (Nat.le_refl _) (fun i hi _ => by
            have e1 := hfn' _ (List.getElem_mem hi)
            have e2 := List.find?_eq_none.1 h2 _ (List.getElem_mem hi)
            simp only [decide_eq_true_eq] at e2
            have := hkt.out
            omega) (fun hj => absurd hj (Nat.lt_irrefl _)))
        rw [h1]
        clear h1 h2 hfn hfn'
        go_wp2_with fail
        clear cn
        have T := S.drew
        replace NB := NB.kpN (Kp.refl _ _ _).drew
        replace cf6 := (Kp.refl w6.heap.size none w6).drew.cellN cf6
        clear S
        obtain ⟨S, hS⟩ : ∃ S : Nat → World → Prop, S = fun n w' => if n = 0 then Blk w' nb 68 #[.int .i64 k.target, .int .i64 k.level, .int .i64 k.item, .int .i64 k.chance.least, .int .i64 k.chance.most, .int .i64 k.chance.all] ∧ w'.cell? ⟨hb, o + 2, none⟩ = some (.slice A (h.led x.drill).facts.length cap) else True := ⟨_, rfl⟩
        have hS0 : ∀ w', S 0 w' ↔ (Blk w' nb 68 #[.int .i64 k.target, .int .i64 k.level, .int .i64 k.item, .int .i64 k.chance.least, .int .i64 k.chance.most, .int .i64 k.chance.all] ∧ w'.cell? ⟨hb, o + 2, none⟩ = some (.slice A (h.led x.drill).facts.length cap)) := fun w' => by rw [hS]; exact Iff.rfl
        have hS1 : ∀ w', S 1 w' ↔ (True) := fun w' => by rw [hS]; exact Iff.rfl
        clear hS
        have cn := fun (q : Ev (S 0)) i => ((hS0 _).1 q.h).1.cell i
        have cf7 := fun (q : Ev (S 0)) => ((hS0 _).1 q.h).2
        have hevT := ev_true
        refine wp_region_ord S [(0, 0), (1, 0), (2, 0), (3, 0), (4, 1), (5, 0), (6, 1), (7, 2), (8, 2), (9, 0), (10, 0), (11, 3)] [11] (by kernel_rfl) (by kernel_rfl) ((hS0 _).2 ⟨NB.blk, cf6⟩) ?_
        intro _hev
        iterate 7 (first | (refine wpOrd_v rfl rfl ?_; intro K hK; go_big_quiet_op; go_big_quiet_on) | (refine wpOrd_q rfl rfl ?_; intro K hK; go_big_quiet_op; go_big_quiet_on) | refine wpOrd_s (by decide) rfl rfl ?_)
        obtain ⟨sb, wq, hwq, hsb, T2, VB, hs0, hsx, hBs⟩ := T.fresh 68 #[.int .i64 k.target, .int .i64 k.level, .int .i64 k.item, .int .i64 k.chance.least, .int .i64 k.chance.most, .int .i64 k.chance.all]
        have kq : Kp w6.drew.heap.size none w6.drew wq := hwq ▸ Kp.new w6.drew _
        have NB2 := NB.kpN kq
        have cf8 := kq.cellN cf6
        refine wpOrd_l rfl rfl ?_; intro K hK
        go_step
        rw [show (World.alloc w6 (.cells #[.int .i64 k.target, .int .i64 k.level, .int .i64 k.item, .int .i64 k.chance.least, .int .i64 k.chance.most, .int .i64 k.chance.all] 68)).drew = wq from hwq.symm, ← show sb = w6.heap.size from hsb]
        replace hsb := Lib.hid hsb
        replace hwq := Lib.hid hwq
        refine hK _ _ ((hS0 _).2 ⟨NB2.blk, cf8⟩) ?_
        clear hK K
        have hBq : B ≤ wq.heap.size := by have := VB.blk.lt; omega
        have ow : Own wq B 68 6 encKnown (.slice A (h.led x.drill).facts.length cap) (h.led x.drill).facts := by rw [← ev.out]; exact T2.p.rows.facts x.drill
        have hsne : (Value.slice A (h.led x.drill).facts.length cap).ownBlock ≠ some sb := by rw [← ev.out]; exact VB.apart.2 (.facts x.drill)
        refine wpOrd_l rfl rfl ?_; intro K hK
        go_step
        refine (insert_any B (.slice A (h.led x.drill).facts.length cap) (h.led x.drill).facts.length (h.led x.drill).facts k sb 1 wq ow hBq (by omega) (Nat.le_refl _) hsne VB.blk).mono ?_
        rintro e w8 ⟨u, rfl, ou, gu, au⟩
        rw [← hJ.out] at ou
        obtain ⟨g8, cap8, rfl⟩ := Own.form ou (by rw [hJ.out, List.length_append, List.length_cons]; omega)
        have st := T2.p.factsStep (d := x.drill) _ _ (by rw [ev.out]; exact gu) ou (by rw [ev.out]; exact au)
        rw [← ho.out] at st
        have T3 := T2.step st
        have NB3 := NB2.fr st.2
        have B8 : Blk w8 hb 84 (pCells V c v h) := (gu.block hb T2.p.lt (fun e => T2.p.rows.hb (.facts x.drill) hb (by rw [rowOf_v, ev.out]; exact e.symm) rfl)).trans T2.p.blk
        have N8 : Blk w8 nb 68 #[.int .i64 k.target, .int .i64 k.level, .int .i64 k.item, .int .i64 k.chance.least, .int .i64 k.chance.most, .int .i64 k.chance.all] := (gu.block nb NB2.blk.lt (fun e => NB2.apart.2 (.facts x.drill) (by rw [ev.out]; exact e.symm))).trans NB2.blk
        have cf9 : w8.cell? ⟨hb, o + 2, none⟩ = some (.slice A (h.led x.drill).facts.length cap) := by rw [ho.out, ← ev.out]; exact (B8.cell _).trans (pCells_facts V c v h x.drill)
        have f9 := B8.frozen (o + 2)
        refine hK _ _ ((hS0 _).2 ⟨N8, cf9⟩) ?_
        try simp only [Act.put, List.setIfInBounds_toArray, List.set_cons_zero, List.set_cons_succ]
        clear hK K
        iterate 2 (first | (refine wpOrd_v rfl rfl ?_; intro K hK; go_big_quiet_op; go_big_quiet_on) | (refine wpOrd_q rfl rfl ?_; intro K hK; go_big_quiet_op; go_big_quiet_on) | refine wpOrd_s (by decide) rfl rfl ?_)
        refine wpOrd_a rfl rfl ?_; intro K hK
        go_step
        refine hK _ _ ((hS1 _).2 trivial) ?_
        clear hK K
        change wpOrd _ _ _ _ _ 1 _ _
        refine wpOrd_nil ?_
        clear hevT _hev
        clear hS0 hS1 S cn cf7
        go_wp2_with fail
        go_meet
        case rel => exact ⟨_, by rw [hb4.out], T3, NB3⟩
      · have hJ := Lib.hid (show withK k (h.led x.drill).facts = (h.led x.drill).facts.take i ++ k :: (h.led x.drill).facts.drop i from
          withK_ins k _ _ (Nat.le_of_lt hi) (fun j hj hji => by
            have e1 := hfn' _ (List.getElem_mem hj)
            have e2 := h4 j hji
            simp only [decide_eq_false_iff_not] at e2
            have := hkt.out
            omega) (fun hj => by
            have e2 : decide (x.a < (h.led x.drill).facts[i].target) = true := h3
            simp only [decide_eq_true_eq] at e2
            have := hkt.out
            omega))
        rw [h1]
        have hile := Nat.le_of_lt hi
        replace hi := Lib.hid hi
        clear h1 h2 h3 h4 hfn hfn'
        simp only [Int.zero_add]
        go_wp2_with fail
        clear cn
        have T := S.drew
        replace NB := NB.kpN (Kp.refl _ _ _).drew
        replace cf6 := (Kp.refl w6.heap.size none w6).drew.cellN cf6
        clear S
        obtain ⟨S, hS⟩ : ∃ S : Nat → World → Prop, S = fun n w' => if n = 0 then Blk w' nb 68 #[.int .i64 k.target, .int .i64 k.level, .int .i64 k.item, .int .i64 k.chance.least, .int .i64 k.chance.most, .int .i64 k.chance.all] ∧ w'.cell? ⟨hb, o + 2, none⟩ = some (.slice A (h.led x.drill).facts.length cap) else True := ⟨_, rfl⟩
        have hS0 : ∀ w', S 0 w' ↔ (Blk w' nb 68 #[.int .i64 k.target, .int .i64 k.level, .int .i64 k.item, .int .i64 k.chance.least, .int .i64 k.chance.most, .int .i64 k.chance.all] ∧ w'.cell? ⟨hb, o + 2, none⟩ = some (.slice A (h.led x.drill).facts.length cap)) := fun w' => by rw [hS]; exact Iff.rfl
        have hS1 : ∀ w', S 1 w' ↔ (True) := fun w' => by rw [hS]; exact Iff.rfl
        clear hS
        have cn := fun (q : Ev (S 0)) i => ((hS0 _).1 q.h).1.cell i
        have cf7 := fun (q : Ev (S 0)) => ((hS0 _).1 q.h).2
        have hevT := ev_true
        refine wp_region_ord S [(0, 0), (1, 0), (2, 0), (3, 0), (4, 1), (5, 0), (6, 1), (7, 2), (8, 2), (9, 0), (10, 0), (11, 3)] [11] (by kernel_rfl) (by kernel_rfl) ((hS0 _).2 ⟨NB.blk, cf6⟩) ?_
        intro _hev
        iterate 7 (first | (refine wpOrd_v rfl rfl ?_; intro K hK; go_big_quiet_op; go_big_quiet_on) | (refine wpOrd_q rfl rfl ?_; intro K hK; go_big_quiet_op; go_big_quiet_on) | refine wpOrd_s (by decide) rfl rfl ?_)
        obtain ⟨sb, wq, hwq, hsb, T2, VB, hs0, hsx, hBs⟩ := T.fresh 68 #[.int .i64 k.target, .int .i64 k.level, .int .i64 k.item, .int .i64 k.chance.least, .int .i64 k.chance.most, .int .i64 k.chance.all]
        have kq : Kp w6.drew.heap.size none w6.drew wq := hwq ▸ Kp.new w6.drew _
        have NB2 := NB.kpN kq
        have cf8 := kq.cellN cf6
        refine wpOrd_l rfl rfl ?_; intro K hK
        go_step
        rw [show (World.alloc w6 (.cells #[.int .i64 k.target, .int .i64 k.level, .int .i64 k.item, .int .i64 k.chance.least, .int .i64 k.chance.most, .int .i64 k.chance.all] 68)).drew = wq from hwq.symm, ← show sb = w6.heap.size from hsb]
        replace hsb := Lib.hid hsb
        replace hwq := Lib.hid hwq
        refine hK _ _ ((hS0 _).2 ⟨NB2.blk, cf8⟩) ?_
        clear hK K
        have hBq : B ≤ wq.heap.size := by have := VB.blk.lt; omega
        have ow : Own wq B 68 6 encKnown (.slice A (h.led x.drill).facts.length cap) (h.led x.drill).facts := by rw [← ev.out]; exact T2.p.rows.facts x.drill
        have hsne : (Value.slice A (h.led x.drill).facts.length cap).ownBlock ≠ some sb := by rw [← ev.out]; exact VB.apart.2 (.facts x.drill)
        refine wpOrd_l rfl rfl ?_; intro K hK
        go_step
        refine (insert_any B (.slice A (h.led x.drill).facts.length cap) i (h.led x.drill).facts k sb 1 wq ow hBq (by omega) hile hsne VB.blk).mono ?_
        rintro e w8 ⟨u, rfl, ou, gu, au⟩
        rw [← hJ.out] at ou
        obtain ⟨g8, cap8, rfl⟩ := Own.form ou (by rw [hJ.out, List.length_append, List.length_cons]; omega)
        have st := T2.p.factsStep (d := x.drill) _ _ (by rw [ev.out]; exact gu) ou (by rw [ev.out]; exact au)
        rw [← ho.out] at st
        have T3 := T2.step st
        have NB3 := NB2.fr st.2
        have B8 : Blk w8 hb 84 (pCells V c v h) := (gu.block hb T2.p.lt (fun e => T2.p.rows.hb (.facts x.drill) hb (by rw [rowOf_v, ev.out]; exact e.symm) rfl)).trans T2.p.blk
        have N8 : Blk w8 nb 68 #[.int .i64 k.target, .int .i64 k.level, .int .i64 k.item, .int .i64 k.chance.least, .int .i64 k.chance.most, .int .i64 k.chance.all] := (gu.block nb NB2.blk.lt (fun e => NB2.apart.2 (.facts x.drill) (by rw [ev.out]; exact e.symm))).trans NB2.blk
        have cf9 : w8.cell? ⟨hb, o + 2, none⟩ = some (.slice A (h.led x.drill).facts.length cap) := by rw [ho.out, ← ev.out]; exact (B8.cell _).trans (pCells_facts V c v h x.drill)
        have f9 := B8.frozen (o + 2)
        refine hK _ _ ((hS0 _).2 ⟨N8, cf9⟩) ?_
        try simp only [Act.put, List.setIfInBounds_toArray, List.set_cons_zero, List.set_cons_succ]
        clear hK K
        iterate 2 (first | (refine wpOrd_v rfl rfl ?_; intro K hK; go_big_quiet_op; go_big_quiet_on) | (refine wpOrd_q rfl rfl ?_; intro K hK; go_big_quiet_op; go_big_quiet_on) | refine wpOrd_s (by decide) rfl rfl ?_)
        refine wpOrd_a rfl rfl ?_; intro K hK
        go_step
        refine hK _ _ ((hS1 _).2 trivial) ?_
        clear hK K
        change wpOrd _ _ _ _ _ 1 _ _
        refine wpOrd_nil ?_
        clear hevT _hev
        clear hS0 hS1 S cn cf7
        go_wp2_with fail
        go_meet
        case rel => exact ⟨_, by rw [hb4.out], T3, NB3⟩
    · have ev2 : v (.facts x.drill) = .slice (some ⟨g, 0, none⟩) (h.led x.drill).facts.length cap := by rw [ev.out, hA]
      have own := S.p.rows.facts x.drill
      rw [ev2] at own
      have cg : ∀ j u, (encKnown (h.led x.drill).facts[i])[j]? = some u → w5.cell? ⟨g, i * 6 + j, none⟩ = some u := fun j u hj => by
        obtain ⟨A', cap', e', rd', -⟩ := own.rd0 (fun _ => rfl)
        simp only [Value.slice.injEq] at e'
        obtain ⟨rfl, -, rfl⟩ := e'
        obtain ⟨b, o', e2, hb2, -, hcc⟩ := rd'.at_ (by omega)
        simp only [Option.some.injEq, Addr.mk.injEq] at e2
        obtain ⟨rfl, rfl, -⟩ := e2
        have := hcc i hi j u hj
        rwa [Nat.zero_add] at this
      have fg : ∀ j, w5.frozen? ⟨g, j, none⟩ = false := fun j => World.ownsRow.frozenAt own j
      have hne : g ≠ nb := fun e => NB.apart.2 (.facts x.drill) (by rw [ev2, ← e]; rfl)
      have hkt := Lib.hid (show k.target = x.a by rw [hkk.out]; rfl)
      have st := own.setKnown i hi k
      rw [← withK_set k _ i hi (hk.out.led x.drill).sorted (by rw [hf2, hkt.out])] at st
      have S2 := S.step (S.p.factsSame _ (by rw [ev2]; exact st.2) (by rw [ev2]; exact st.1))
      have NB2 := NB.other st.2 (Ne.symm hne)
      have hb4 : beforeL (h.led x.drill) x.a = (h.led x.drill).facts[i].level := by unfold beforeL knownOf; rw [hf1]
      have c0 : w5.cell? ⟨g, i * 6 + 0, none⟩ = some (.int .i64 (h.led x.drill).facts[i].target) := cg 0 _ rfl
      have c1 : w5.cell? ⟨g, i * 6 + 1, none⟩ = some (.int .i64 (h.led x.drill).facts[i].level) := cg 1 _ rfl
      have c2 : w5.cell? ⟨g, i * 6 + 2, none⟩ = some (.int .i64 (h.led x.drill).facts[i].item) := cg 2 _ rfl
      have c3 : w5.cell? ⟨g, i * 6 + 3, none⟩ = some (.int .i64 (h.led x.drill).facts[i].chance.least) := cg 3 _ rfl
      have c4 : w5.cell? ⟨g, i * 6 + 4, none⟩ = some (.int .i64 (h.led x.drill).facts[i].chance.most) := cg 4 _ rfl
      have c5 : w5.cell? ⟨g, i * 6 + 5, none⟩ = some (.int .i64 (h.led x.drill).facts[i].chance.all) := cg 5 _ rfl
      simp only [Nat.add_zero] at c0
      clear cg st own ev2 hf1 hf2 hf3 cx
      replace hb4 := Lib.hid hb4
      generalize (h.led x.drill).facts[i] = f at hb4 c0 c1 c2 c3 c4 c5
      obtain ⟨q, hq⟩ : ∃ q, q = i * 6 := ⟨_, rfl⟩
      rw [← hq] at c0 c1 c2 c3 c4 c5 ⊢
      clear hi
      replace hq := Lib.hid hq
      have T2 := Lib.hid S2
      have T := Lib.hid S
      have N2 := Lib.hid NB2
      clear S S2 NB2
      go_wp2_with fail
      have hq' := hq.out
      subst hq'
      go_meet
      case rel => exact ⟨v, by rw [hb4.out], T2.out, N2.out⟩
  case rest =>
  clear hP cx cn ev gA
  rename World => w6
  obtain ⟨v1, rfl, S, NB⟩ := hcut
  obtain ⟨bL, hbL⟩ : ∃ q, q = beforeL (h.led x.drill) x.a := ⟨_, rfl⟩
  rw [← hbL]
  replace hbL := Lib.hid hbL
  go_wp2_with fail
  have T := S.drew
  replace NB := NB.kpN (Kp.refl _ _ _).drew
  clear S
  obtain ⟨S, hS⟩ : ∃ S : Nat → World → Prop, S = fun n w' => if n = 0 then Blk w' nb 68 #[.int .i64 k.target, .int .i64 k.level, .int .i64 k.item, .int .i64 k.chance.least, .int .i64 k.chance.most, .int .i64 k.chance.all] ∧ Blk w' xb 36 #[.int .i64 x.kind, .int .i64 x.tick, .bool x.drill, .int .i64 x.a, .int .i64 x.b, .bool x.yes, .int .i64 x.chance.least, .int .i64 x.chance.most, .int .i64 x.chance.all] else True := ⟨_, rfl⟩
  have hS0 : ∀ w', S 0 w' ↔ (Blk w' nb 68 #[.int .i64 k.target, .int .i64 k.level, .int .i64 k.item, .int .i64 k.chance.least, .int .i64 k.chance.most, .int .i64 k.chance.all] ∧ Blk w' xb 36 #[.int .i64 x.kind, .int .i64 x.tick, .bool x.drill, .int .i64 x.a, .int .i64 x.b, .bool x.yes, .int .i64 x.chance.least, .int .i64 x.chance.most, .int .i64 x.chance.all]) := fun w' => by rw [hS]; exact Iff.rfl
  have hS1 : ∀ w', S 1 w' ↔ (True) := fun w' => by rw [hS]; exact Iff.rfl
  clear hS
  have cn := fun (q : Ev (S 0)) i => ((hS0 _).1 q.h).1.cell i
  have cx := fun (q : Ev (S 0)) i => ((hS0 _).1 q.h).2.cell i
  have hsl : ((h.put x.drill { h.led x.drill with facts := withK k (h.led x.drill).facts }).led x.drill).sent.length ≤ 5000 := by
    rw [put_led]; have := (hk.out.led x.drill).slen; simp only; omega
  have sd := send_any B hb V c v1 _ x.drill x.tick x.a bL k.level _ T.p hsl
  rw [← ho.out, put_put, put_led] at sd
  have hevT := ev_true
  refine wp_region_ord S [(0, 0), (1, 0), (2, 0), (3, 0), (4, 1), (5, 0), (6, 1), (7, 0), (8, 0), (9, 1), (10, 2)] [] (by kernel_rfl) (by kernel_rfl) ((hS0 _).2 ⟨NB.blk, T.x.blk⟩) ?_
  intro _hev
  iterate 10 (first | (refine wpOrd_v rfl rfl ?_; intro K hK; go_big_quiet_op; go_big_quiet_on) | (refine wpOrd_q rfl rfl ?_; intro K hK; go_big_quiet_op; go_big_quiet_on) | refine wpOrd_s (by decide) rfl rfl ?_)
  refine wpOrd_l rfl rfl ?_; intro K hK
  go_step
  refine sd.mono ?_
  rintro e w8 ⟨rfl, v2, p2, f2⟩
  have T2 := T.step ⟨p2, f2⟩
  have NB2 := NB.fr f2
  refine hK _ _ ((hS0 _).2 ⟨NB2.blk, T2.x.blk⟩) ?_
  clear hK K
  refine wpOrd_nil ?_
  clear hevT _hev
  clear hS0 hS1 S cn cx sd hsl T NB p2 f2
  have e0 : ({ items := (h.led x.drill).items, facts := withK k (h.led x.drill).facts, motions := (h.led x.drill).motions, sent := sentAt bL k.level x.tick x.a (h.led x.drill).sent } : Ledger) = mixL c (h.led x.drill) x k 0 := by
    unfold mixL; rw [mixM_zero, ← hbL.out]; rfl
  have S : FS B hb xb V c v v2 (h.put x.drill (mixL c (h.led x.drill) x k 0)) x w w8 := by rw [← e0]; exact T2
  clear T2 e0
  have NB := NB2
  clear NB2
  have cx := fun i => S.x.blk.cell i
  have cn := fun i => NB.blk.cell i
  have hmo : ∀ i, ((h.put x.drill (mixL c (h.led x.drill) x k i)).led x.drill).motions = mixM c k i (h.led x.drill).motions := fun i => by rw [put_led]; rfl
  obtain ⟨A3, cap3, hv3, hA3⟩ := S.p.motForm x.drill
  rw [hmo, mixM_len] at hv3 hA3
  have hml : (h.led x.drill).motions.length ≤ 64 := (hk.out.led x.drill).mlen
  obtain ⟨nm, hnm⟩ : ∃ q, q = (h.led x.drill).motions.length := ⟨_, rfl⟩
  rw [← hnm] at hv3 hA3 hml
  have c3 : w8.cell? ⟨hb, o + 3, none⟩ = some (.slice A3 nm cap3) := by rw [ho.out, ← hv3]; exact (S.p.blk.cell _).trans (pCells_mot _ _ _ _ _)
  replace hv3 := Lib.hid hv3
  replace hnm := Lib.hid hnm
  replace hA3 := Lib.hid hA3
  replace hmo := Lib.hid hmo
  go_wp2_with fail
  go_loopw [106] (fun u wr => FactAt B hb xb V c v v2 h x k nb nm w u wr) (fun u _ => nm - (intOf u).toNat)
  case atStart => exact ⟨0, rfl, Nat.zero_le _, S, NB⟩
  case round =>
    obtain ⟨i, rfl, hi, SR, NR⟩ := hrel
    clear S NB cx cn c3
    have S := SR
    have NB := NR
    clear SR NR
    have cx := fun i => S.x.blk.cell i
    have cn := fun i => NB.blk.cell i
    by_cases h7 : i < nm
    · obtain ⟨g3, rfl⟩ := hA3.out (by omega)
      have hi' : (i : Int) < (nm : Int) := by omega
      have hii : i < ((h.put x.drill (mixL c (h.led x.drill) x k i)).led x.drill).motions.length := by rw [hmo.out, mixM_len, ← hnm.out]; exact h7
      have hil : i < (h.led x.drill).motions.length := by rw [← hnm.out]; exact h7
      have hmi : ((h.put x.drill (mixL c (h.led x.drill) x k i)).led x.drill).motions[i] = (h.led x.drill).motions[i] := by
        have : ∀ (l : List Motion) (e : l = mixM c k i (h.led x.drill).motions) (hl : i < l.length), l[i] = (h.led x.drill).motions[i] := fun l e hl => by subst e; exact mixM_at c k i _ hil
        exact this _ (hmo.out i) hii
      obtain ⟨m, hm⟩ : ∃ q, q = (h.led x.drill).motions[i] := ⟨_, rfl⟩
      rw [← hm] at hmi
      have mA : ∀ W, FS B hb xb V c v v2 (h.put x.drill (mixL c (h.led x.drill) x k i)) x w W → (∀ j u, (encMot (v2 (.voted x.drill i)) m)[j]? = some u → W.cell? ⟨g3, i * 8 + j, none⟩ = some u) ∧ (∀ j, W.frozen? ⟨g3, j, none⟩ = false) ∧ g3 < W.heap.size ∧ g3 ≠ hb ∧ B ≤ g3 := fun W s => by
        have := s.p.motAt hv3.out i hii
        rwa [hmi] at this
      have c3 : wr.cell? ⟨hb, o + 3, none⟩ = some (.slice (some ⟨g3, 0, none⟩) nm cap3) := by rw [ho.out, ← hv3.out]; exact (S.p.blk.cell _).trans (pCells_mot _ _ _ _ _)
      replace hm := Lib.hid hm
      replace hmi := Lib.hid hmi
      replace mA := Lib.hid mA
      replace hi := Lib.hid hi
      replace h7 := Lib.hid h7
      go_wp2_with fail
      go_cut [14] (fun v14 wx => AtLaw B hb xb V c v v2 h x k i nb m w v14 wx)
      case first =>
        clear cx cn c3
        replace S := S.drew
        replace NB := NB.kpN (Kp.refl _ _ _).drew
        obtain ⟨S0, hS⟩ : ∃ S0 : World → Prop, S0 = fun w' => Blk w' hb 84 (pCells V c v2 (h.put x.drill (mixL c (h.led x.drill) x k i))) ∧ w'.cell? ⟨g3, i * 8 + 1, none⟩ = some (.int .i64 m.act) := ⟨_, rfl⟩
        have hS0 : ∀ w', S0 w' ↔ (Blk w' hb 84 (pCells V c v2 (h.put x.drill (mixL c (h.led x.drill) x k i))) ∧ w'.cell? ⟨g3, i * 8 + 1, none⟩ = some (.int .i64 m.act)) := fun w' => by rw [hS]
        clear hS
        have ca := fun (q : Ev S0) => ((hS0 _).1 q.h).2
        have c0 : ∀ q : Ev S0, q.w.cell? ⟨hb, 0, none⟩ = some (.slice V.am c.members.length V.cm) := fun q => ((hS0 _).1 q.h).1.cell 0
        have c1 : ∀ q : Ev S0, q.w.cell? ⟨hb, 1, none⟩ = some (.slice V.al c.laws.length V.cl) := fun q => ((hS0 _).1 q.h).1.cell 1
        have c2 : ∀ q : Ev S0, q.w.cell? ⟨hb, 2, none⟩ = some (.slice V.av c.levels.length V.cv) := fun q => ((hS0 _).1 q.h).1.cell 2
        have hevT := ev_true
        refine wp_region_tr S0 (.st 0 0 (.st 1 0 (.st 2 0 (.st 3 1 (.st 4 0 (.st 5 0 (.st 6 0 (.st 7 1 (.b2 8 (.st 9 0 (.st 10 0 (.st 11 0 (.st 12 2 (.st 13 2 (.st 14 0 .nil)))))) 12 (.st 8 2 (.st 9 0 (.st 10 0 (.st 11 0 (.st 13 2 (.st 14 0 .nil))))))))))))))) (by kernel_rfl) (by kernel_rfl) ((hS0 _).2 ⟨S.p.blk, (mA.out _ S).1 1 _ rfl⟩) ?_
        intro _hev
        iterate 8 (first | (refine wpTr_v rfl rfl ?_; intro K hK; go_big_quiet_op; go_big_quiet_on) | (refine wpTr_q rfl rfl ?_; intro K hK; go_big_quiet_op; go_big_quiet_on) | refine wpTr_s rfl rfl ?_)
        refine wpTr_b2 ?_ ?_
        · refine wpOne_l rfl rfl ?_; intro K hK
          go_step
          refine (council_law_any m.act B V c _ S.p.c).mono ?_
          rintro e w5 ⟨rfl, k5⟩
          replace S := S.kpN k5
          replace NB := NB.kpN k5
          try (replace LB := LB.kpN k5)
          refine hK _ _ ((hS0 _).2 ⟨S.p.blk, (mA.out _ S).1 1 _ rfl⟩) ?_
          clear hK K k5
          iterate 3 (first | (refine wpTr_v rfl rfl ?_; intro K hK; go_big_quiet_op; go_big_quiet_on) | (refine wpTr_q rfl rfl ?_; intro K hK; go_big_quiet_op; go_big_quiet_on) | refine wpTr_s rfl rfl ?_)
          refine wpTr_l rfl rfl ?_; intro K hK
          obtain ⟨lb, wq, hwq, hlb, S2, LB, hl0, hlx, hBl⟩ := S.fresh 101 #[.int .i64 0, .int .i64 0, .int .i64 0, .int .i64 0, .int .i64 0]
          have kq := hwq ▸ Kp.new _ _
          have hnl : nb ≠ lb := by have := NB.blk.lt; omega
          replace NB := NB.kpN kq
          clear S kq
          have S := S2
          clear S2
          go_step
          first | rw [← hwq] | rw [show (World.alloc w5 (.cells #[.int .i64 0, .int .i64 0, .int .i64 0, .int .i64 0, .int .i64 0] 101)).drew = wq from hwq.symm] | rw [show (World.alloc wr (.cells #[.int .i64 0, .int .i64 0, .int .i64 0, .int .i64 0, .int .i64 0] 101)).drew = wq from hwq.symm]
          first | rw [← hlb] | rw [← show lb = wr.heap.size from hlb]
          replace hlb := Lib.hid hlb
          refine hK _ _ ((hS0 _).2 ⟨S.p.blk, (mA.out _ S).1 1 _ rfl⟩) ?_
          clear hK K hwq
          refine wpTr_l rfl rfl ?_; intro K hK
          have cL := fun i => LB.blk.cell i
          have fL := fun i => LB.blk.frozen i
          go_step
          have S2 := S.other (setL0_grown _ lb (lawD c m.act)) LB.apart hl0 hlx hBl
          have LB2 : Lcl hb v2 _ lb _ _ := ⟨Blk.setL0 LB.blk (lawD c m.act), LB.apart⟩
          have NB2 := NB.other (setL0_grown _ lb (lawD c m.act)) hnl
          clear cL fL
          change K _ (setL0 _ lb (lawD c m.act))
          generalize setL0 _ lb (lawD c m.act) = w7 at S2 NB2 LB2 ⊢
          refine hK _ _ ((hS0 _).2 ⟨S2.p.blk, (mA.out _ S2).1 1 _ rfl⟩) ?_
          clear hK K
          iterate 1 (first | (refine wpTr_v rfl rfl ?_; intro K hK; go_big_quiet_op; go_big_quiet_on) | (refine wpTr_q rfl rfl ?_; intro K hK; go_big_quiet_op; go_big_quiet_on) | refine wpTr_s rfl rfl ?_)
          refine wpTr_nil ?_
          clear hevT _hev
          go_wp2_with fail
          go_meet
          case rel => exact ⟨lb, rfl, S2, NB2, LB2, hnl⟩
        · refine wpOne_l rfl rfl ?_; intro K hK
          obtain ⟨lb, wq, hwq, hlb, S2, LB, hl0, hlx, hBl⟩ := S.fresh 101 #[.int .i64 0, .int .i64 0, .int .i64 0, .int .i64 0, .int .i64 0]
          have kq := hwq ▸ Kp.new _ _
          have hnl : nb ≠ lb := by have := NB.blk.lt; omega
          replace NB := NB.kpN kq
          clear S kq
          have S := S2
          clear S2
          go_step
          first | rw [← hwq] | rw [show (World.alloc w5 (.cells #[.int .i64 0, .int .i64 0, .int .i64 0, .int .i64 0, .int .i64 0] 101)).drew = wq from hwq.symm] | rw [show (World.alloc wr (.cells #[.int .i64 0, .int .i64 0, .int .i64 0, .int .i64 0, .int .i64 0] 101)).drew = wq from hwq.symm]
          first | rw [← hlb] | rw [← show lb = wr.heap.size from hlb]
          replace hlb := Lib.hid hlb
          refine hK _ _ ((hS0 _).2 ⟨S.p.blk, (mA.out _ S).1 1 _ rfl⟩) ?_
          clear hK K hwq
          refine wpTr_l rfl rfl ?_; intro K hK
          go_step
          refine (council_law_any m.act B V c _ S.p.c).mono ?_
          rintro e w5 ⟨rfl, k5⟩
          replace S := S.kpN k5
          replace NB := NB.kpN k5
          try (replace LB := LB.kpN k5)
          refine hK _ _ ((hS0 _).2 ⟨S.p.blk, (mA.out _ S).1 1 _ rfl⟩) ?_
          clear hK K k5
          iterate 3 (first | (refine wpTr_v rfl rfl ?_; intro K hK; go_big_quiet_op; go_big_quiet_on) | (refine wpTr_q rfl rfl ?_; intro K hK; go_big_quiet_op; go_big_quiet_on) | refine wpTr_s rfl rfl ?_)
          refine wpTr_l rfl rfl ?_; intro K hK
          have cL := fun i => LB.blk.cell i
          have fL := fun i => LB.blk.frozen i
          go_step
          have S2 := S.other (setL0_grown _ lb (lawD c m.act)) LB.apart hl0 hlx hBl
          have LB2 : Lcl hb v2 _ lb _ _ := ⟨Blk.setL0 LB.blk (lawD c m.act), LB.apart⟩
          have NB2 := NB.other (setL0_grown _ lb (lawD c m.act)) hnl
          clear cL fL
          change K _ (setL0 _ lb (lawD c m.act))
          generalize setL0 _ lb (lawD c m.act) = w7 at S2 NB2 LB2 ⊢
          refine hK _ _ ((hS0 _).2 ⟨S2.p.blk, (mA.out _ S2).1 1 _ rfl⟩) ?_
          clear hK K
          iterate 1 (first | (refine wpTr_v rfl rfl ?_; intro K hK; go_big_quiet_op; go_big_quiet_on) | (refine wpTr_q rfl rfl ?_; intro K hK; go_big_quiet_op; go_big_quiet_on) | refine wpTr_s rfl rfl ?_)
          refine wpTr_nil ?_
          clear hevT _hev
          go_wp2_with fail
          go_meet
          case rel => exact ⟨lb, rfl, S2, NB2, LB2, hnl⟩
      case rest =>
      clear S NB cx cn c3
      rename World => w7
      obtain ⟨lb, rfl, S, NB, LB, hnl⟩ := hcut
      have cx := fun i => S.x.blk.cell i
      have cn := fun i => NB.blk.cell i
      have cl := fun i => LB.blk.cell i
      have m0 : w7.cell? ⟨g3, i * 8, none⟩ = some (.int .i64 m.target) := (mA.out _ S).1 0 _ rfl
      have m3 : w7.cell? ⟨g3, i * 8 + 3, none⟩ = some (.int .i64 m.state) := (mA.out _ S).1 3 _ rfl
      have hkt : k.target = x.a := by rw [hkk.out]; rfl
      replace hkt := Lib.hid hkt
      have skip : voidM c k m = m → ∀ W, Kp w7.heap.size none w7 W → FactAt B hb xb V c v v2 h x k nb nm w (.int .i64 ((i : Int) + 1)) W := fun e W kW => by
        refine ⟨i + 1, rfl, h7.out, ?_, NB.kpN kW⟩
        rw [mixL_skip c (h.led x.drill) x k i hil (by rw [← hm.out]; exact e)]
        exact S.kpN kW
      replace skip := Lib.hid skip
      by_cases q1 : m.state = 1
      case neg =>
        have e := voidM_not c k m (fun q => q1 q.1)
        replace e := Lib.hid e
        go_wp2_with fail
        go_quiet (fail)
        go_wp2_with fail
        go_roundw
        case rel => exact skip.out e.out _ ((Kp.refl _ _ _).drewN _)
        case measure => have := h7.out; simp [intOf]; omega
      by_cases q2 : m.target = x.a
      case neg =>
        have e := voidM_not c k m (fun q => q2 (q.2.1.trans hkt.out))
        replace e := Lib.hid e
        go_wp2_with fail
        go_quiet (fail)
        go_wp2_with fail
        go_roundw
        case rel => exact skip.out e.out _ ((Kp.refl _ _ _).drewN _)
        case measure => have := h7.out; simp [intOf]; omega
      by_cases q3 : k.level < (lawD c m.act).level
      case neg =>
        have e := voidM_not c k m (fun q => q3 q.2.2)
        replace e := Lib.hid e
        go_wp2_with fail
        go_quiet (fail)
        go_wp2_with fail
        go_roundw
        case rel => exact skip.out e.out _ ((Kp.refl _ _ _).drewN _)
        case measure => have := h7.out; simp [intOf]; omega
      have e := voidM_yes c k m ⟨q1, q2.trans hkt.out.symm, q3⟩
      replace e := Lib.hid e
      go_wp2_with fail
      go_quiet (fail)
      go_wp2_with fail
      clear skip cx cn cl m0 m3
      replace S := S.kpN ((Kp.refl _ _ _).drewN nq)
      replace NB := NB.kpN ((Kp.refl _ _ _).drewN nq)
      generalize w7.drewN nq = w8 at S NB ⊢
      have hng : nb ≠ g3 := fun e => NB.apart.2 (.motions x.drill) (by rw [hv3.out, ← e]; rfl)
      have m3 : w8.cell? ⟨g3, i * 8 + 3, none⟩ = some (.int .i64 m.state) := (mA.out _ S).1 3 _ rfl
      have m7 : w8.cell? ⟨g3, i * 8 + 7, none⟩ = some (.int .i64 m.fact) := (mA.out _ S).1 7 _ rfl
      have mf : ∀ j, w8.frozen? ⟨g3, j, none⟩ = false := (mA.out _ S).2.1
      have st := S.p.motEnd hv3.out i hii 4 k.item
      rw [put_put, set_end (mixL c (h.led x.drill) x k i) _ (put_led _ _ _) i hii m hmi.out 4 k.item] at st
      rw [← e.out, show voidM c k m = voidM c k (h.led x.drill).motions[i] by rw [hm.out], ← mixL_succ c (h.led x.drill) x k i hil] at st
      have N9 := ((NB.other (grown_set _ g3 (i * 8 + 3) (.int .i64 4)) hng).other (grown_set _ g3 (i * 8 + 7) (.int .i64 k.item)) hng).kpN (Kp.refl _ _ _).drew
      have S9 := (S.step st).drew
      have T := S
      clear S
      obtain ⟨S, hS⟩ : ∃ S : Nat → World → Prop, S = fun n w' => if n = 0 then Blk w' nb 68 #[.int .i64 k.target, .int .i64 k.level, .int .i64 k.item, .int .i64 k.chance.least, .int .i64 k.chance.most, .int .i64 k.chance.all] else True := ⟨_, rfl⟩
      have hS0 : ∀ w', S 0 w' ↔ (Blk w' nb 68 #[.int .i64 k.target, .int .i64 k.level, .int .i64 k.item, .int .i64 k.chance.least, .int .i64 k.chance.most, .int .i64 k.chance.all]) := fun w' => by rw [hS]; exact Iff.rfl
      have hS1 : ∀ w', S 1 w' ↔ (True) := fun w' => by rw [hS]; exact Iff.rfl
      clear hS
      have cn := fun (q : Ev (S 0)) i => ((hS0 _).1 q.h).cell i
      have hevT := ev_true
      refine wp_region_ord S [(0, 0), (1, 0), (2, 0), (3, 1), (4, 0), (5, 0), (6, 2), (7, 0), (8, 0), (9, 2)] [] (by kernel_rfl) (by kernel_rfl) ((hS0 _).2 NB.blk) ?_
      intro _hev
      iterate 6 (first | (refine wpOrd_v rfl rfl ?_; intro K hK; go_big_quiet_op; go_big_quiet_on) | (refine wpOrd_q rfl rfl ?_; intro K hK; go_big_quiet_op; go_big_quiet_on) | refine wpOrd_s (by decide) rfl rfl ?_)
      refine wpOrd_l rfl rfl ?_; intro K hK
      go_step
      refine hK _ _ ((hS0 _).2 (NB.blk.far hng _)) ?_
      clear hK K
      iterate 2 (first | (refine wpOrd_v rfl rfl ?_; intro K hK; go_big_quiet_op; go_big_quiet_on) | (refine wpOrd_q rfl rfl ?_; intro K hK; go_big_quiet_op; go_big_quiet_on) | refine wpOrd_s (by decide) rfl rfl ?_)
      refine wpOrd_l rfl rfl ?_; intro K hK
      go_step
      refine hK _ _ ((hS0 _).2 ((NB.blk.far hng _).far hng _)) ?_
      clear hK K
      refine wpOrd_nil ?_
      clear hevT _hev
      clear hS0 hS1 S cn m3 m7 mf
      go_wp2_with fail
      go_roundw
      case rel => exact ⟨i + 1, rfl, h7.out, S9, N9⟩
      case measure => have := h7.out; simp [intOf]; omega
    · have he : i = nm := by omega
      have hi' : ¬ (i : Int) < (nm : Int) := by omega
      have fin : DeedPost B hb V c v h x E (factL c (h.led x.drill) x) w (.returned (.int .i64 0)) wr := by
        refine DeedPost.fin (v' := v2) (xb := xb) ?_ hE2.out
        rw [← mixL_all, ← hkk.out, ← hnm.out, ← he]
        exact S
      replace fin := Lib.hid fin
      replace he := Lib.hid he
      clear h7 hi
      go_wp2
      go_ret
      exact fin.out
end Go.Proofs.YtogpgnljomchcaaGreat
