/- What a deed of a house carries along; a fact in its place, in plain Lean and in memory. -/
import Derived.Test.YtogpgnljomchcaaGreatIns
namespace Go.Proofs.YtogpgnljomchcaaGreat
open Go.RowKit

/-! ### Plain -/
theorem withK_set (k : Known) : ∀ (l : List Known) (i : Nat) (hi : i < l.length), l.Pairwise (fun a b => a.target < b.target) → l[i].target = k.target → withK k l = l.set i k
  | y :: r, 0, _, _, h => by
    have h0 : y.target = k.target := h
    unfold withK
    rw [if_pos h0]
    rfl
  | y :: r, i + 1, hi, hs, h => by
    have h1 := List.pairwise_cons.1 hs
    have hi' : i < r.length := by simpa using hi
    have h2 := h1.1 r[i] (List.getElem_mem hi')
    have h3 : r[i].target = k.target := h
    unfold withK
    rw [if_neg (by omega), if_neg (by omega), withK_set k r i hi' h1.2 h3]
    rfl
theorem withK_ins (k : Known) : ∀ (l : List Known) (j : Nat), j ≤ l.length → (∀ i (hi : i < l.length), i < j → l[i].target < k.target) → (∀ (hj : j < l.length), k.target < l[j].target) → withK k l = l.take j ++ k :: l.drop j
  | [], j, hj, _, _ => by
    have : j = 0 := by simpa using hj
    subst this
    rfl
  | y :: r, 0, _, _, h => by
    have h0 : k.target < y.target := h (by simp)
    unfold withK
    rw [if_neg (by omega), if_pos h0]
    rfl
  | y :: r, j + 1, hj, h1, h2 => by
    have h0 : y.target < k.target := h1 0 (by simp) (by omega)
    unfold withK
    rw [if_neg (by omega), if_neg (by omega), withK_ins k r j (by simpa using hj) (fun i hi hij => h1 (i + 1) (by simpa using hi) (by omega)) (fun hj' => h2 (by simpa using hj'))]
    rfl
/-- the first i motions as they are after the fact -/
def mixM (c : Council) (k : Known) (i : Nat) (ms : List Motion) : List Motion := (ms.take i).map (voidM c k) ++ ms.drop i
theorem mixM_zero (c : Council) (k : Known) (ms : List Motion) : mixM c k 0 ms = ms := by simp [mixM]
theorem mixM_all (c : Council) (k : Known) (ms : List Motion) : mixM c k ms.length ms = ms.map (voidM c k) := by simp [mixM]
theorem mixM_len (c : Council) (k : Known) (i : Nat) (ms : List Motion) : (mixM c k i ms).length = ms.length := by simp [mixM]; omega
theorem mixM_at (c : Council) (k : Known) (i : Nat) (ms : List Motion) (hi : i < ms.length) : (mixM c k i ms)[i]'(by rw [mixM_len]; exact hi) = ms[i] := by
  unfold mixM
  rw [List.getElem_append_right (by simp; omega)]
  simp [Nat.min_eq_left (Nat.le_of_lt hi)]
theorem mixM_succ (c : Council) (k : Known) (i : Nat) (ms : List Motion) (hi : i < ms.length) : mixM c k (i + 1) ms = (mixM c k i ms).set i (voidM c k ms[i]) := by
  unfold mixM
  rw [List.take_succ_eq_append_getElem hi, List.map_append, List.set_append_right _ _ (by simp; omega)]
  simp only [List.length_map, List.length_take, Nat.min_eq_left (Nat.le_of_lt hi), Nat.sub_self]
  rw [List.drop_eq_getElem_cons hi, List.set_cons_zero, List.map_singleton, List.append_assoc]
  rfl
theorem mixM_skip (c : Council) (k : Known) (i : Nat) (ms : List Motion) (hi : i < ms.length) (h : voidM c k ms[i] = ms[i]) : mixM c k (i + 1) ms = mixM c k i ms := by
  rw [mixM_succ c k i ms hi, h]
  conv => lhs; rw [← mixM_at c k i ms hi]
  exact List.set_getElem_self _
theorem mixM_voted (c : Council) (k : Known) (i : Nat) (ms : List Motion) (hi : i < ms.length) : (voidM c k ms[i]).voted = ((mixM c k i ms)[i]'(by rw [mixM_len]; exact hi)).voted := by
  rw [mixM_at c k i ms hi, (voidM_same c k _).2.2.2.2.2]

/-! ### In memory -/
/-- six cells of a row at once -/
def setK (w : World) (g o : Nat) (k : Known) : World := (((((w.setCell ⟨g, o, none⟩ (.int .i64 k.target)).setCell ⟨g, o + 1, none⟩ (.int .i64 k.level)).setCell ⟨g, o + 2, none⟩ (.int .i64 k.item)).setCell ⟨g, o + 3, none⟩ (.int .i64 k.chance.least)).setCell ⟨g, o + 4, none⟩ (.int .i64 k.chance.most)).setCell ⟨g, o + 5, none⟩ (.int .i64 k.chance.all)
theorem grown_trans {w w1 w2 : World} {row : Option Nat} (h : w.grownBy w1 row) (k : w1.grownBy w2 row) : w.grownBy w2 row :=
  ⟨k.os.trans h.os, k.tape.trans h.tape, k.output.trans h.output, Nat.le_trans h.size k.size, fun i hi hne => (k.block i (Nat.lt_of_lt_of_le hi h.size) hne).trans (h.block i hi hne)⟩
theorem Own.setKnown {w : World} {B g n cap : Nat} {xs : List Known} (h : Own w B 68 6 encKnown (.slice (some ⟨g, 0, none⟩) n cap) xs) (i : Nat) (hi : i < xs.length) (k : Known) :
    Own (setK w g (i * 6) k) B 68 6 encKnown (.slice (some ⟨g, 0, none⟩) n cap) (xs.set i k) ∧ w.grownBy (setK w g (i * 6) k) (some g) := by
  have a0 := Own.setAt (sz := 6) (enc := encKnown) (fun _ => rfl) h i hi 0 (by omega) (.int .i64 k.target) { xs[i] with target := k.target } rfl
  have a1 := Own.setAt (sz := 6) (enc := encKnown) (fun _ => rfl) a0.1 i (by simpa using hi) 1 (by omega) (.int .i64 k.level) { xs[i] with target := k.target, level := k.level } (by simp [encKnown])
  rw [List.set_set] at a1
  have a2 := Own.setAt (sz := 6) (enc := encKnown) (fun _ => rfl) a1.1 i (by simpa using hi) 2 (by omega) (.int .i64 k.item) { xs[i] with target := k.target, level := k.level, item := k.item } (by simp [encKnown])
  rw [List.set_set] at a2
  have a3 := Own.setAt (sz := 6) (enc := encKnown) (fun _ => rfl) a2.1 i (by simpa using hi) 3 (by omega) (.int .i64 k.chance.least) ⟨k.target, k.level, k.item, { xs[i].chance with least := k.chance.least }⟩ (by simp [encKnown])
  rw [List.set_set] at a3
  have a4 := Own.setAt (sz := 6) (enc := encKnown) (fun _ => rfl) a3.1 i (by simpa using hi) 4 (by omega) (.int .i64 k.chance.most) ⟨k.target, k.level, k.item, { xs[i].chance with least := k.chance.least, most := k.chance.most }⟩ (by simp [encKnown])
  rw [List.set_set] at a4
  have a5 := Own.setAt (sz := 6) (enc := encKnown) (fun _ => rfl) a4.1 i (by simpa using hi) 5 (by omega) (.int .i64 k.chance.all) k (by simp [encKnown])
  rw [List.set_set] at a5
  exact ⟨a5.1, grown_trans (grown_trans (grown_trans (grown_trans (grown_trans a0.2 a1.2) a2.2) a3.2) a4.2) a5.2⟩

theorem updV_self (v : Ky → Value) (k : Ky) : updV v k (v k) = v := funext fun j => by
  unfold updV
  split
  · rename_i e; rw [e]
  · rfl
theorem PH.factsSame {B hb : Nat} {w w' : World} {v : Ky → Value} {V : CV} {c : Council} {h : House} {d : Bool} (p : PH B hb w V c v h) (fs : List Known) (hg : w.grownBy w' (v (.facts d)).ownBlock) (ho : Own w' B 68 6 encKnown (v (.facts d)) fs) :
    PH B hb w' V c v (h.put d { h.led d with facts := fs }) ∧ Fr hb v v w w' := by
  have hne : (v (.facts d)).ownBlock ≠ some hb := fun e => p.rows.hb (.facts d) hb (by rw [rowOf_v]; exact e) rfl
  have F := (Fr.refl hb v w).same (.facts d) hg
  have K := p.kp F
  have r := p.rows.setFacts p.lt fs (v (.facts d)) hg ho (.inl rfl)
  rw [updV_self] at r
  have e1 : pCells V c v (h.put d { h.led d with facts := fs }) = pCells V c v h := by cases d <;> rfl
  refine ⟨⟨r, p.low, ?_, p.c.kp K⟩, F⟩
  rw [e1]
  exact (hg.block hb p.lt (fun e => hne e.symm)).trans p.blk
/-- a block of one's own beside a house -/
structure Lcl (hb : Nat) (v : Ky → Value) (w : World) (g : Nat) (t : TypeId) (cs : Array Value) : Prop where
  blk : Blk w g t cs
  apart : Apart hb v g
theorem Lcl.kpN {hb : Nat} {v : Ky → Value} {w w' : World} {g : Nat} {t : TypeId} {cs : Array Value} (h : Lcl hb v w g t cs) (k : Kp w.heap.size none w w') : Lcl hb v w' g t cs := ⟨h.blk.kpN k, h.apart⟩
theorem Lcl.fr {hb : Nat} {v v' : Ky → Value} {w w' : World} {g : Nat} {t : TypeId} {cs : Array Value} (h : Lcl hb v w g t cs) (f : Fr hb v v' w w') : Lcl hb v' w' g t cs := ⟨h.blk.fr f h.apart, h.apart.fr f h.blk.lt⟩
theorem PH.lcl {B hb : Nat} {w : World} {V : CV} {c : Council} {v : Ky → Value} {h : House} (p : PH B hb w V c v h) (t : TypeId) (cs : Array Value) : Lcl hb v (w.alloc (.cells cs t)) w.heap.size t cs :=
  ⟨Blk.new w t cs, p.rows.apartNew (Nat.le_refl _) p.lt⟩
theorem RH.lcl {B hb : Nat} {w : World} {v : Ky → Value} {h : House} (p : RH B hb w v h) (t : TypeId) (cs : Array Value) : Lcl hb v (w.alloc (.cells cs t)) w.heap.size t cs :=
  ⟨Blk.new w t cs, p.rows.apartNew (Nat.le_refl _) p.lt⟩
/-- in the course of a deed of the program's house -/
structure FS (B hb xb : Nat) (V : CV) (c : Council) (v0 v : Ky → Value) (h : House) (x : CItem) (w0 w : World) : Prop where
  p : PH B hb w V c v h
  x : Lcl hb v w xb 36 #[.int .i64 x.kind, .int .i64 x.tick, .bool x.drill, .int .i64 x.a, .int .i64 x.b, .bool x.yes, .int .i64 x.chance.least, .int .i64 x.chance.most, .int .i64 x.chance.all]
  f : Fr hb v0 v w0 w
section
variable {B hb xb : Nat} {V : CV} {c : Council} {v0 v v' : Ky → Value} {h h' : House} {x : CItem} {w0 w w' : World}
theorem FS.start (p : PH B hb w V c v h) (x : CItem) : FS B hb w.heap.size V c v v h x w (w.alloc (.cells #[.int .i64 x.kind, .int .i64 x.tick, .bool x.drill, .int .i64 x.a, .int .i64 x.b, .bool x.yes, .int .i64 x.chance.least, .int .i64 x.chance.most, .int .i64 x.chance.all] 36)) :=
  ⟨p.alloc _, p.lcl _ _, (Fr.refl hb v w).alloc _⟩
theorem FS.kpN (s : FS B hb xb V c v0 v h x w0 w) (k : Kp w.heap.size none w w') : FS B hb xb V c v0 v h x w0 w' := ⟨s.p.kpN k, s.x.kpN k, s.f.thenKp k⟩
theorem FS.drew (s : FS B hb xb V c v0 v h x w0 w) : FS B hb xb V c v0 v h x w0 w.drew := s.kpN (Kp.refl _ _ _).drew
theorem FS.alloc (s : FS B hb xb V c v0 v h x w0 w) (o : Obj) : FS B hb xb V c v0 v h x w0 (w.alloc o) := s.kpN (Kp.new _ o)
theorem FS.step (s : FS B hb xb V c v0 v h x w0 w) (q : PH B hb w' V c v' h' ∧ Fr hb v v' w w') : FS B hb xb V c v0 v' h' x w0 w' := ⟨q.1, s.x.fr q.2, s.f.trans q.2⟩
end
/-- a store in a block of one's own -/
theorem RowsAt.other {B hb : Nat} {w w' : World} {v : Ky → Value} {h : House} (hr : RowsAt B hb w (rowOf h v)) {g : Nat} (hg : w.grownBy w' (some g)) (ha : Apart hb v g) : RowsAt B hb w' (rowOf h v) :=
  ⟨fun k => World.ownsRow.kept (hr.own k) hg (.inr (by rw [rowOf_v]; exact ha.2 k)), hr.ap, hr.hb⟩
theorem grown_set (w : World) (g o : Nat) (u : Value) : w.grownBy (w.setCell ⟨g, o, none⟩ u) (some g) :=
  ⟨rfl, rfl, rfl, by simp [World.setCell], fun i _ hne => Below.heap_setCell _ _ _ _ (fun e => hne (by rw [e]))⟩
theorem PH.other {B hb g : Nat} {w w' : World} {V : CV} {c : Council} {v : Ky → Value} {h : House} (p : PH B hb w V c v h) (hg : w.grownBy w' (some g)) (ha : Apart hb v g) (hB : B ≤ g) : PH B hb w' V c v h :=
  ⟨p.rows.other hg ha, p.low, (hg.block hb p.lt (fun e => ha.1 (by injection e with e; exact e.symm))).trans p.blk, p.c.kp ⟨hg.os, hg.tape, hg.output, hg.size, fun k hk _ => hg.block k (by have := p.low; have := p.lt; omega) (fun e => by injection e with e; omega)⟩⟩
theorem Fr.other {hb g : Nat} {w w1 w2 : World} {v v1 : Ky → Value} (f : Fr hb v v1 w w1) (hg : w1.grownBy w2 (some g)) (h0 : w.heap.size ≤ g) : Fr hb v v1 w w2 :=
  ⟨hg.os.trans f.os, hg.tape.trans f.tape, hg.output.trans f.output, Nat.le_trans f.size hg.size, fun i hi ha => by
    obtain ⟨e1, a1⟩ := f.block i hi ha
    exact ⟨(hg.block i (Nat.lt_of_lt_of_le hi f.size) (fun e => by injection e with e; omega)).trans e1, a1⟩⟩
theorem Lcl.other {hb g b : Nat} {w w' : World} {v : Ky → Value} {t : TypeId} {cs : Array Value} (h : Lcl hb v w b t cs) (hg : w.grownBy w' (some g)) (hne : b ≠ g) : Lcl hb v w' b t cs :=
  ⟨(hg.block b h.blk.lt (fun e => hne (by injection e))).trans h.blk, h.apart⟩
theorem FS.other {B hb xb g : Nat} {V : CV} {c : Council} {v0 v : Ky → Value} {h : House} {x : CItem} {w0 w w' : World} (s : FS B hb xb V c v0 v h x w0 w) (hg : w.grownBy w' (some g)) (ha : Apart hb v g) (h0 : w0.heap.size ≤ g) (hne : xb ≠ g) (hB : B ≤ g) : FS B hb xb V c v0 v h x w0 w' :=
  ⟨s.p.other hg ha hB, s.x.other hg hne, s.f.other hg h0⟩
theorem FS.fresh {B hb xb : Nat} {V : CV} {c : Council} {v0 v : Ky → Value} {h : House} {x : CItem} {w0 w : World} (s : FS B hb xb V c v0 v h x w0 w) (t : TypeId) (cs : Array Value) :
    ∃ nb wq, wq = w.alloc (.cells cs t) ∧ nb = w.heap.size ∧ FS B hb xb V c v0 v h x w0 wq ∧ Lcl hb v wq nb t cs ∧ w0.heap.size ≤ nb ∧ xb ≠ nb ∧ B ≤ nb :=
  ⟨w.heap.size, _, rfl, rfl, s.alloc _, s.p.lcl _ _, s.f.size, by have := s.x.blk.lt; omega, by have := s.p.low; have := s.p.lt; omega⟩
/-- the six cells of a block -/
def setK0 (w : World) (g : Nat) (k : Known) : World := (((((w.setCell ⟨g, 0, none⟩ (.int .i64 k.target)).setCell ⟨g, 1, none⟩ (.int .i64 k.level)).setCell ⟨g, 2, none⟩ (.int .i64 k.item)).setCell ⟨g, 3, none⟩ (.int .i64 k.chance.least)).setCell ⟨g, 4, none⟩ (.int .i64 k.chance.most)).setCell ⟨g, 5, none⟩ (.int .i64 k.chance.all)
theorem setK0_grown (w : World) (g : Nat) (k : Known) : w.grownBy (setK0 w g k) (some g) :=
  grown_trans (grown_trans (grown_trans (grown_trans (grown_trans (grown_set _ _ _ _) (grown_set _ _ _ _)) (grown_set _ _ _ _)) (grown_set _ _ _ _)) (grown_set _ _ _ _)) (grown_set _ _ _ _)
theorem Blk.setK0 {w : World} {g : Nat} {t : TypeId} {x0 x1 x2 x3 x4 x5 : Value} (h : Blk w g t #[x0, x1, x2, x3, x4, x5]) (k : Known) : Blk (setK0 w g k) g t #[.int .i64 k.target, .int .i64 k.level, .int .i64 k.item, .int .i64 k.chance.least, .int .i64 k.chance.most, .int .i64 k.chance.all] := by
  have := (((((h.set_ 0 (.int .i64 k.target)).set_ 1 (.int .i64 k.level)).set_ 2 (.int .i64 k.item)).set_ 3 (.int .i64 k.chance.least)).set_ 4 (.int .i64 k.chance.most)).set_ 5 (.int .i64 k.chance.all)
  unfold Go.Proofs.YtogpgnljomchcaaGreat.setK0
  simpa using this
/-- the five cells of a law -/
def setL0 (w : World) (g : Nat) (k : LawC) : World := ((((w.setCell ⟨g, 0, none⟩ (.int .i64 k.act)).setCell ⟨g, 1, none⟩ (.int .i64 k.level)).setCell ⟨g, 2, none⟩ (.int .i64 k.window)).setCell ⟨g, 3, none⟩ (.int .i64 k.quorum)).setCell ⟨g, 4, none⟩ (.int .i64 k.share)
theorem setL0_grown (w : World) (g : Nat) (k : LawC) : w.grownBy (setL0 w g k) (some g) :=
  grown_trans (grown_trans (grown_trans (grown_trans (grown_set _ _ _ _) (grown_set _ _ _ _)) (grown_set _ _ _ _)) (grown_set _ _ _ _)) (grown_set _ _ _ _)
theorem Blk.setL0 {w : World} {g : Nat} {t : TypeId} {x0 x1 x2 x3 x4 : Value} (h : Blk w g t #[x0, x1, x2, x3, x4]) (k : LawC) : Blk (setL0 w g k) g t #[.int .i64 k.act, .int .i64 k.level, .int .i64 k.window, .int .i64 k.quorum, .int .i64 k.share] := by
  have := ((((h.set_ 0 (.int .i64 k.act)).set_ 1 (.int .i64 k.level)).set_ 2 (.int .i64 k.window)).set_ 3 (.int .i64 k.quorum)).set_ 4 (.int .i64 k.share)
  unfold Go.Proofs.YtogpgnljomchcaaGreat.setL0
  simpa using this
/-! ### The motions of a house -/
theorem PH.motAt {B hb : Nat} {w : World} {V : CV} {c : Council} {v : Ky → Value} {h : House} {d : Bool} (p : PH B hb w V c v h) {g n cap : Nat} (hv : v (.motions d) = .slice (some ⟨g, 0, none⟩) n cap) (i : Nat) (hi : i < (h.led d).motions.length) :
    (∀ j u, (encMot (v (.voted d i)) (h.led d).motions[i])[j]? = some u → w.cell? ⟨g, i * 8 + j, none⟩ = some u) ∧ (∀ j, w.frozen? ⟨g, j, none⟩ = false) ∧ g < w.heap.size ∧ g ≠ hb ∧ B ≤ g := by
  have own := p.rows.motions d
  rw [hv] at own
  obtain ⟨A, cap', e, rd, -⟩ := own.rd0 (fun _ => rfl)
  simp only [Value.slice.injEq] at e
  obtain ⟨rfl, rfl, rfl⟩ := e
  have hge := own.ge g rfl
  refine ⟨fun j u hj => ?_, fun j => World.ownsRow.frozenAt own j, hge.2, fun e => p.rows.hb (.motions d) hb (by rw [rowOf_v, hv, ← e]; rfl) rfl, hge.1⟩
  have hz : i < (zipV (fun i => v (.voted d i)) 0 (h.led d).motions).length := by rw [zipV_len]; exact hi
  obtain ⟨b, o', e2, -, -, hcc⟩ := rd.at_ (by omega)
  simp only [Option.some.injEq, Addr.mk.injEq] at e2
  obtain ⟨rfl, rfl, -⟩ := e2
  have := hcc i hz j u (by rw [zipV_at _ _ _ _ hi, Nat.zero_add]; exact hj)
  rwa [Nat.zero_add] at this
theorem PH.motForm {B hb : Nat} {w : World} {V : CV} {c : Council} {v : Ky → Value} {h : House} (p : PH B hb w V c v h) (d : Bool) : ∃ A cap, v (.motions d) = .slice A (h.led d).motions.length cap ∧ (0 < (h.led d).motions.length → ∃ g, A = some ⟨g, 0, none⟩) := by
  obtain ⟨A, cap, e, -, hA⟩ := (p.rows.motions d).rd0 (fun _ => rfl)
  rw [zipV_len] at e
  refine ⟨A, cap, e, fun h0 => ?_⟩
  rcases hA with ⟨-, hz, -⟩ | ⟨g, rfl, -⟩
  · have := congrArg List.length hz
    rw [zipV_len] at this
    simp at this
    rw [this] at h0
    simp at h0
  · exact ⟨g, rfl⟩
theorem put_put (h : House) (d : Bool) (l l' : Ledger) : (h.put d l).put d l' = h.put d l' := by cases d <;> rfl
theorem put_led (h : House) (d : Bool) (l : Ledger) : (h.put d l).led d = l := by cases d <;> rfl
theorem put_led_not (h : House) (d : Bool) (l : Ledger) : (h.put d l).led (!d) = h.led (!d) := by cases d <;> rfl
theorem put_self (h : House) (d : Bool) : h.put d (h.led d) = h := by cases d <;> rfl
/-- the ledger of a fact whose first i motions are done -/
def mixL (c : Council) (own : Ledger) (x : CItem) (k : Known) (i : Nat) : Ledger :=
  { items := own.items, facts := withK k own.facts, motions := mixM c k i own.motions, sent := sendA x (beforeL own x.a) k.level own.sent }
theorem mixL_all (c : Council) (own : Ledger) (x : CItem) : mixL c own x (newK c own x) own.motions.length = factL c own x := by
  unfold mixL factL
  rw [mixM_all]
/-- state and fact of a motion -/
theorem PH.motEnd {B hb : Nat} {w : World} {V : CV} {c : Council} {v : Ky → Value} {h : House} {d : Bool} (p : PH B hb w V c v h) {g n cap : Nat} (hv : v (.motions d) = .slice (some ⟨g, 0, none⟩) n cap) (i : Nat) (hi : i < (h.led d).motions.length) (s f : Int) :
    PH B hb ((w.setCell ⟨g, i * 8 + 3, none⟩ (.int .i64 s)).setCell ⟨g, i * 8 + 7, none⟩ (.int .i64 f)) V c v (h.put d { h.led d with motions := (h.led d).motions.set i { (h.led d).motions[i] with state := s, fact := f } }) ∧
      Fr hb v v w ((w.setCell ⟨g, i * 8 + 3, none⟩ (.int .i64 s)).setCell ⟨g, i * 8 + 7, none⟩ (.int .i64 f)) := by
  have a := p.motCell hv i hi 3 (by omega) (.int .i64 s) { (h.led d).motions[i] with state := s } rfl rfl
  have e1 : ∀ l : Ledger, ((h.put d l).led d) = l := fun l => put_led h d l
  have hi2 : i < ((h.put d { h.led d with motions := (h.led d).motions.set i { (h.led d).motions[i] with state := s } }).led d).motions.length := by rw [e1]; simpa using hi
  have hm2 : ((h.put d { h.led d with motions := (h.led d).motions.set i { (h.led d).motions[i] with state := s } }).led d).motions[i] = { (h.led d).motions[i] with state := s } := by
    simp only [e1, List.getElem_set_self]
  have b := a.1.motCell hv i hi2 7 (by omega) (.int .i64 f) { (h.led d).motions[i] with state := s, fact := f } (by rw [hm2]) (by rw [hm2]; rfl)
  rw [put_put, e1] at b
  simp only [List.set_set] at b
  exact ⟨b.1, a.2.trans b.2⟩
theorem voidM_not (c : Council) (k : Known) (m : Motion) (h : ¬ (m.state = 1 ∧ m.target = k.target ∧ k.level < (lawD c m.act).level)) : voidM c k m = m := if_neg h
theorem voidM_yes (c : Council) (k : Known) (m : Motion) (h : m.state = 1 ∧ m.target = k.target ∧ k.level < (lawD c m.act).level) : voidM c k m = { m with state := 4, fact := k.item } := if_pos h
theorem mixL_skip (c : Council) (own : Ledger) (x : CItem) (k : Known) (i : Nat) (hi : i < own.motions.length) (h : voidM c k own.motions[i] = own.motions[i]) : mixL c own x k (i + 1) = mixL c own x k i := by
  unfold mixL
  rw [mixM_skip c k i _ hi h]
theorem mixL_succ (c : Council) (own : Ledger) (x : CItem) (k : Known) (i : Nat) (hi : i < own.motions.length) :
    mixL c own x k (i + 1) = { mixL c own x k i with motions := (mixL c own x k i).motions.set i (voidM c k own.motions[i]) } := by
  unfold mixL
  rw [mixM_succ c k i _ hi]
theorem set_end (L L' : Ledger) (e : L' = L) (i : Nat) (hi : i < L'.motions.length) (m : Motion) (hm : L'.motions[i] = m) (s f : Int) :
    ({ L' with motions := L'.motions.set i { L'.motions[i] with state := s, fact := f } } : Ledger) = { L with motions := L.motions.set i { m with state := s, fact := f } } := by
  subst e
  rw [hm]
end Go.Proofs.YtogpgnljomchcaaGreat
