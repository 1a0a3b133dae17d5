/- CouncilAsks: what its regions lay. -/
import Derived.Test.YtogpgnljomchcaaGreatAsAll
import Derived.Test.YtogpgnljomchcaaGreatCrd
import Derived.Test.YtogpgnljomchcaaGreatIt
namespace Go.Proofs.YtogpgnljomchcaaGreat
open Go.RowKit

theorem Lo.keep {α : Type} {B sz n g : Nat} {w w' : World} {enc : α → List Value} {A : Option Addr} {xs : List α} (h : Lo B w sz enc A n xs) (k : Kp B (some g) w w') (hA : ∀ ad, A = some ad → ad.block ≠ g) : Lo B w' sz enc A n xs := by
  refine ⟨h.1, fun hn => ?_⟩
  obtain ⟨b, o, e, hb, hw, hc⟩ := h.2 hn
  have hg : b ≠ g := hA _ e
  exact ⟨b, o, e, hb, Nat.lt_of_lt_of_le hw k.size, fun i hi j v hv => (k.cell b _ hb (sne hg)).trans (hc i hi j v hv)⟩
theorem CAt.keep {B g : Nat} {w w' : World} {V : CV} {c : Council} (h : CAt B w V c) (k : Kp B (some g) w w') (f : CFar V (g + 1)) : CAt B w' V c :=
  ⟨h.m.keep k (fun ad e => by have := f.1 ad e; omega), h.l.keep k (fun ad e => by have := f.2.1 ad e; omega), h.v.keep k (fun ad e => by have := f.2.2 ad e; omega), h.ms, h.ls, h.vs⟩

/-! ### The region that lays the four lists -/
structure GA where
  b2 : Nat
  b5 : Nat
  b9 : Nat
  b13 : Nat
  k : Nat
  xt : Int
  xm : Int
  d2 : Bool
  d5 : Bool
  d8 : Bool
  d9 : Bool
  d12 : Bool
  d13 : Bool
structure LAsk (wb : World) (g : Nat) (nums : List Int) (k0 : Nat) (c2 c5 : Array Value) (t0 m0 : Int) (D : Nat → Bool) (γ : GA) (w : World) : Prop where
  kp : Kp wb.heap.size (some g) wb w
  ring : RingAt w g nums γ.k
  gb : g < wb.heap.size
  k2 : γ.k ≤ k0 + 2
  k8 : γ.d8 = false → γ.k ≤ k0
  k12 : γ.d12 = false → γ.k ≤ k0 + 1
  f2 : D 2 = γ.d2
  f5 : D 5 = γ.d5
  f8 : D 8 = γ.d8
  f9 : D 9 = γ.d9
  f12 : D 12 = γ.d12
  f13 : D 13 = γ.d13
  o9 : γ.d9 = true → γ.d8 = true
  o12 : γ.d12 = true → γ.d8 = true
  o13 : γ.d13 = true → γ.d12 = true
  r2 : γ.d2 = true → Blk w γ.b2 28 c2 ∧ wb.heap.size ≤ γ.b2
  r5 : γ.d5 = true → Blk w γ.b5 29 c5 ∧ wb.heap.size ≤ γ.b5
  r9 : γ.d9 = true → Blk w γ.b9 2 #[.int .i64 t0, .int .i64 γ.xt] ∧ wb.heap.size ≤ γ.b9
  r13 : γ.d13 = true → Blk w γ.b13 3 #[.int .i64 m0, .int .i64 γ.xm] ∧ wb.heap.size ≤ γ.b13
section
variable {wb : World} {g k0 : Nat} {nums : List Int} {c2 c5 : Array Value} {t0 m0 : Int} {D : Nat → Bool} {γ : GA} {w w' : World}
theorem LAsk.start (K : Kp wb.heap.size (some g) wb w) (r : RingAt w g nums k0) (gb : g < wb.heap.size) : LAsk wb g nums k0 c2 c5 t0 m0 (fun _ => false) ⟨0, 0, 0, 0, k0, 0, 0, false, false, false, false, false, false⟩ w :=
  { kp := K, ring := r, gb := gb, k2 := (by show k0 ≤ k0 + 2; omega), k8 := fun _ => Nat.le_refl _, k12 := fun _ => (by show k0 ≤ k0 + 1; omega), f2 := rfl, f5 := rfl, f8 := rfl, f9 := rfl, f12 := rfl, f13 := rfl,
    o9 := (by intro h; cases h), o12 := (by intro h; cases h), o13 := (by intro h; cases h), r2 := (by intro h; cases h), r5 := (by intro h; cases h), r9 := (by intro h; cases h), r13 := (by intro h; cases h) }
theorem blk_turn {b : Nat} {t : TypeId} {cs : Array Value} (h : Blk w b t cs ∧ wb.heap.size ≤ b) (gb : g < wb.heap.size) (q : Kp w.heap.size (some g) w w') : Blk w' b t cs ∧ wb.heap.size ≤ b :=
  ⟨h.1.kp q h.1.lt (sne (by have := h.2; omega)), h.2⟩
/-- the memory goes on, the ring at another place -/
theorem LAsk.mem (h : LAsk wb g nums k0 c2 c5 t0 m0 D γ w) (q : Kp w.heap.size (some g) w w') :
    Kp wb.heap.size (some g) wb w' ∧ (γ.d2 = true → Blk w' γ.b2 28 c2 ∧ wb.heap.size ≤ γ.b2) ∧ (γ.d5 = true → Blk w' γ.b5 29 c5 ∧ wb.heap.size ≤ γ.b5) ∧
    (γ.d9 = true → Blk w' γ.b9 2 #[.int .i64 t0, .int .i64 γ.xt] ∧ wb.heap.size ≤ γ.b9) ∧ (γ.d13 = true → Blk w' γ.b13 3 #[.int .i64 m0, .int .i64 γ.xm] ∧ wb.heap.size ≤ γ.b13) :=
  ⟨h.kp.then_ q (Nat.le_refl _), fun p => blk_turn (h.r2 p) h.gb q, fun p => blk_turn (h.r5 p) h.gb q, fun p => blk_turn (h.r9 p) h.gb q, fun p => blk_turn (h.r13 p) h.gb q⟩
theorem LAsk.op2 (hD : D 2 = false) (hw : w' = w.alloc (.cells c2 28)) (h : LAsk wb g nums k0 c2 c5 t0 m0 D γ w) : LAsk wb g nums k0 c2 c5 t0 m0 (fun j => j == 2 || D j) { γ with b2 := w.heap.size, d2 := true } w' := by
  subst hw
  obtain ⟨m0, m2, m5, m9, m13⟩ := h.mem ((Kp.new w (.cells c2 28)).wide _)
  exact {
    kp := m0
    ring := h.ring.alloc _
    gb := h.gb
    k2 := h.k2
    k8 := h.k8
    k12 := h.k12
    f2 := rfl
    f5 := h.f5
    f8 := h.f8
    f9 := h.f9
    f12 := h.f12
    f13 := h.f13
    o9 := h.o9
    o12 := h.o12
    o13 := h.o13
    r2 := fun _ => ⟨Blk.new w _ _, h.kp.size⟩
    r5 := m5
    r9 := m9
    r13 := m13 }
theorem LAsk.op5 (hD : D 5 = false) (hw : w' = w.alloc (.cells c5 29)) (h : LAsk wb g nums k0 c2 c5 t0 m0 D γ w) : LAsk wb g nums k0 c2 c5 t0 m0 (fun j => j == 5 || D j) { γ with b5 := w.heap.size, d5 := true } w' := by
  subst hw
  obtain ⟨m0, m2, m5, m9, m13⟩ := h.mem ((Kp.new w (.cells c5 29)).wide _)
  exact {
    kp := m0
    ring := h.ring.alloc _
    gb := h.gb
    k2 := h.k2
    k8 := h.k8
    k12 := h.k12
    f2 := h.f2
    f5 := rfl
    f8 := h.f8
    f9 := h.f9
    f12 := h.f12
    f13 := h.f13
    o9 := h.o9
    o12 := h.o12
    o13 := h.o13
    r2 := m2
    r5 := fun _ => ⟨Blk.new w _ _, h.kp.size⟩
    r9 := m9
    r13 := m13 }
theorem LAsk.op9 (hD : D 9 = false) (h8 : γ.d8 = true) (hw : w' = w.alloc (.cells #[.int .i64 t0, .int .i64 γ.xt] 2)) (h : LAsk wb g nums k0 c2 c5 t0 m0 D γ w) : LAsk wb g nums k0 c2 c5 t0 m0 (fun j => j == 9 || D j) { γ with b9 := w.heap.size, d9 := true } w' := by
  subst hw
  obtain ⟨m0, m2, m5, m9, m13⟩ := h.mem ((Kp.new w (.cells #[.int .i64 t0, .int .i64 γ.xt] 2)).wide _)
  exact {
    kp := m0
    ring := h.ring.alloc _
    gb := h.gb
    k2 := h.k2
    k8 := h.k8
    k12 := h.k12
    f2 := h.f2
    f5 := h.f5
    f8 := h.f8
    f9 := rfl
    f12 := h.f12
    f13 := h.f13
    o9 := fun _ => h8
    o12 := h.o12
    o13 := h.o13
    r2 := m2
    r5 := m5
    r9 := fun _ => ⟨Blk.new w _ _, h.kp.size⟩
    r13 := m13 }
theorem LAsk.op13 (hD : D 13 = false) (h12 : γ.d12 = true) (hw : w' = w.alloc (.cells #[.int .i64 m0, .int .i64 γ.xm] 3)) (h : LAsk wb g nums k0 c2 c5 t0 m0 D γ w) : LAsk wb g nums k0 c2 c5 t0 m0 (fun j => j == 13 || D j) { γ with b13 := w.heap.size, d13 := true } w' := by
  subst hw
  obtain ⟨m0, m2, m5, m9, m13⟩ := h.mem ((Kp.new w (.cells #[.int .i64 m0, .int .i64 γ.xm] 3)).wide _)
  exact {
    kp := m0
    ring := h.ring.alloc _
    gb := h.gb
    k2 := h.k2
    k8 := h.k8
    k12 := h.k12
    f2 := h.f2
    f5 := h.f5
    f8 := h.f8
    f9 := h.f9
    f12 := h.f12
    f13 := rfl
    o9 := h.o9
    o12 := h.o12
    o13 := fun _ => h12
    r2 := m2
    r5 := m5
    r9 := m9
    r13 := fun _ => ⟨Blk.new w _ _, h.kp.size⟩ }
theorem LAsk.op8 {x : Int} (hD : D 8 = false) (r : RingAt w' g nums (γ.k + 1)) (q : Kp w.heap.size (some g) w w') (h : LAsk wb g nums k0 c2 c5 t0 m0 D γ w) : LAsk wb g nums k0 c2 c5 t0 m0 (fun j => j == 8 || D j) { γ with k := γ.k + 1, xt := x, d8 := true } w' := by
  have e8 : γ.d8 = false := h.f8.symm.trans hD
  have e9 : γ.d9 = false := by
    cases p : γ.d9 with
    | false => rfl
    | true => exact absurd (h.o9 p) (by rw [e8]; decide)
  have e12 : γ.d12 = false := by
    cases p : γ.d12 with
    | false => rfl
    | true => exact absurd (h.o12 p) (by rw [e8]; decide)
  have hk := h.k8 e8
  obtain ⟨m0, m2, m5, m9, m13⟩ := h.mem q
  exact {
    kp := m0
    ring := r
    gb := h.gb
    k2 := by show γ.k + 1 ≤ k0 + 2; omega
    k8 := fun p => by cases p
    k12 := fun _ => by show γ.k + 1 ≤ k0 + 1; omega
    f2 := h.f2
    f5 := h.f5
    f8 := rfl
    f9 := h.f9
    f12 := h.f12
    f13 := h.f13
    o9 := fun _ => rfl
    o12 := fun _ => rfl
    o13 := h.o13
    r2 := m2
    r5 := m5
    r9 := fun p => absurd p (by show ¬ γ.d9 = true; rw [e9]; decide)
    r13 := m13 }
theorem LAsk.op12 {x : Int} (hD : D 12 = false) (h8 : γ.d8 = true) (r : RingAt w' g nums (γ.k + 1)) (q : Kp w.heap.size (some g) w w') (h : LAsk wb g nums k0 c2 c5 t0 m0 D γ w) : LAsk wb g nums k0 c2 c5 t0 m0 (fun j => j == 12 || D j) { γ with k := γ.k + 1, xm := x, d12 := true } w' := by
  have e12 : γ.d12 = false := h.f12.symm.trans hD
  have e13 : γ.d13 = false := by
    cases p : γ.d13 with
    | false => rfl
    | true => exact absurd (h.o13 p) (by rw [e12]; decide)
  have hk := h.k12 e12
  obtain ⟨m0, m2, m5, m9, m13⟩ := h.mem q
  exact {
    kp := m0
    ring := r
    gb := h.gb
    k2 := by show γ.k + 1 ≤ k0 + 2; omega
    k8 := fun p => absurd h8 (by rw [show γ.d8 = false from p]; decide)
    k12 := fun p => by cases p
    f2 := h.f2
    f5 := h.f5
    f8 := h.f8
    f9 := h.f9
    f12 := rfl
    f13 := h.f13
    o9 := h.o9
    o12 := fun _ => h8
    o13 := fun _ => rfl
    r2 := m2
    r5 := m5
    r9 := m9
    r13 := fun p => absurd p (by show ¬ γ.d13 = true; rw [e13]; decide) }
end

/-! ### What the rounds go through -/
structure AkS (W : World) (B0 g b14 b2 b5 b9 b13 : Nat) (V : CV) (A2 : Option Addr) (l its : List CItem) (q1 q2 : Nat) : Prop where
  wb : W.heap.size ≤ B0
  gW : W.heap.size ≤ g
  l14 : b14 < B0 ∧ b14 ≠ g
  l2 : b2 < B0 ∧ b2 ≠ g
  l5 : b5 < B0 ∧ b5 ≠ g
  l9 : b9 < B0 ∧ b9 ≠ g
  l13 : b13 < B0 ∧ b13 ≠ g
  far : CFar V (g + 1)
  ri : ∀ ad, A2 = some ad → ad.block ≠ g
  n1 : l.length ≤ 1000000
  n2 : its.length ≤ 1000000
  c1 : l.length ≤ q1
  c2 : its.length ≤ q2
structure AK (W : World) (B0 b14 b2 b5 b9 b13 : Nat) (V0 V : CV) (c own : Council) (A1 A2 : Option Addr) (q1 q2 : Nat) (l its : List CItem) (t0 t1 m0 m1 : Int) (L : LV) (y : Ledger) (w : World) : Prop where
  kp : Kp W.heap.size none W w
  size : B0 ≤ w.heap.size
  h14 : Blk w b14 41 #[.int .i64 y.items, .slice L.fa y.facts.length L.fc, .slice L.ma y.motions.length L.mc, .slice L.sa y.sent.length L.sc]
  h2 : Blk w b2 28 #[.slice V0.am c.members.length V0.cm, .slice V0.al c.laws.length V0.cl, .slice V0.av c.levels.length V0.cv, .slice V.am own.members.length V.cm, .slice V.al own.laws.length V.cl, .slice V.av own.levels.length V.cv]
  h5 : Blk w b5 29 #[.slice A1 l.length q1, .slice A2 its.length q2]
  h9 : Blk w b9 2 #[.int .i64 t0, .int .i64 t1]
  h13 : Blk w b13 3 #[.int .i64 m0, .int .i64 m1]
  ca : CAt W.heap.size w V0 c
  ra : Lo W.heap.size w 9 encItem A1 l.length l
  ly : LAt W.heap.size w L y
  co : CAt B0 w V own
  rd : Lo B0 w 9 encItem A2 its.length its
section
variable {W w w' : World} {B0 g b14 b2 b5 b9 b13 q1 q2 : Nat} {V0 V : CV} {c own : Council} {A1 A2 : Option Addr} {l its : List CItem} {t0 t1 m0 m1 : Int} {L : LV} {y : Ledger}
theorem AK.keep (s : AK W B0 b14 b2 b5 b9 b13 V0 V c own A1 A2 q1 q2 l its t0 t1 m0 m1 L y w) (st : AkS W B0 g b14 b2 b5 b9 b13 V A2 l its q1 q2) (q : Kp B0 (some g) w w') : AK W B0 b14 b2 b5 b9 b13 V0 V c own A1 A2 q1 q2 l its t0 t1 m0 m1 L y w' :=
  have qW : Kp W.heap.size none w w' := ⟨q.os, q.tape, q.output, q.size, fun i hi _ => q.block i (by have := st.wb; omega) (fun e => by injection e with e; have := st.gW; omega)⟩
  ⟨s.kp.trans qW, Nat.le_trans s.size q.size, s.h14.kp q st.l14.1 (sne st.l14.2), s.h2.kp q st.l2.1 (sne st.l2.2), s.h5.kp q st.l5.1 (sne st.l5.2), s.h9.kp q st.l9.1 (sne st.l9.2), s.h13.kp q st.l13.1 (sne st.l13.2),
    s.ca.kp qW, s.ra.kp qW, s.ly.kp qW, s.co.keep q st.far, s.rd.keep q st.ri⟩
theorem AK.kpN (s : AK W B0 b14 b2 b5 b9 b13 V0 V c own A1 A2 q1 q2 l its t0 t1 m0 m1 L y w) (st : AkS W B0 g b14 b2 b5 b9 b13 V A2 l its q1 q2) (q : Kp w.heap.size none w w') : AK W B0 b14 b2 b5 b9 b13 V0 V c own A1 A2 q1 q2 l its t0 t1 m0 m1 L y w' :=
  s.keep st ((q.mono s.size).wide _)
/-- what a round finds -/
structure AF (b2 b5 b9 b13 i : Nat) (Vi : CV) (ci : Council) (Ai : Option Addr) (qi : Nat) (li : List CItem) (ti mi : Int) (w : World) : Prop where
  ca : CAt w.heap.size w Vi ci
  d0 : w.cell? ⟨b2, i * 3, none⟩ = some (.slice Vi.am ci.members.length Vi.cm)
  d1 : w.cell? ⟨b2, i * 3 + 1, none⟩ = some (.slice Vi.al ci.laws.length Vi.cl)
  d2 : w.cell? ⟨b2, i * 3 + 2, none⟩ = some (.slice Vi.av ci.levels.length Vi.cv)
  e0 : w.cell? ⟨b5, i, none⟩ = some (.slice Ai li.length qi)
  t : w.cell? ⟨b9, i, none⟩ = some (.int .i64 ti)
  m : w.cell? ⟨b13, i, none⟩ = some (.int .i64 mi)
  r : Rd none w 9 encItem Ai li.length li
theorem AK.round (st : AkS W B0 g b14 b2 b5 b9 b13 V A2 l its q1 q2) {i : Nat} (hi : i < 2) : ∃ Vi ci Ai qi li ti mi, li.length ≤ 1000000 ∧ li.length ≤ qi ∧
    ∀ w, AK W B0 b14 b2 b5 b9 b13 V0 V c own A1 A2 q1 q2 l its t0 t1 m0 m1 L y w → AF b2 b5 b9 b13 i Vi ci Ai qi li ti mi w := by
  rcases (show i = 0 ∨ i = 1 by omega) with rfl | rfl
  · exact ⟨V0, c, A1, q1, l, t0, m0, st.n1, st.c1, fun w s => ⟨s.ca.wide (by have := s.kp.size; omega), s.h2.cell 0, s.h2.cell 1, s.h2.cell 2, s.h5.cell 0, s.h9.cell 0, s.h13.cell 0, s.ra.rdN⟩⟩
  · exact ⟨V, own, A2, q2, its, t1, m1, st.n2, st.c2, fun w s => ⟨s.co.wide s.size, s.h2.cell 3, s.h2.cell 4, s.h2.cell 5, s.h5.cell 1, s.h9.cell 1, s.h13.cell 1, s.rd.rdN⟩⟩
end

/-- a house in a cell, its rows laid behind the ring -/
structure HouseQ (g hb : Nat) (X : HV) (v : Ky → Value) (x : House) (w : World) : Prop where
  hl : Blk w hb 43 #[.int .i64 x.tick, .int .i64 x.real.items, .slice X.r.fa x.real.facts.length X.r.fc, .slice X.r.ma x.real.motions.length X.r.mc, .slice X.r.sa x.real.sent.length X.r.sc, .int .i64 x.drill.items, .slice X.d.fa x.drill.facts.length X.d.fc, .slice X.d.ma x.drill.motions.length X.d.mc, .slice X.d.sa x.drill.sent.length X.d.sc]
  hX : X = hvOf v
  ha : ∃ B, g < B ∧ HAt B w v x
section
variable {w w' : World} {g hb : Nat} {X : HV} {v : Ky → Value} {x : House}
theorem HouseQ.kpN (s : HouseQ g hb X v x w) (q : Kp w.heap.size none w w') : HouseQ g hb X v x w' := by
  obtain ⟨B, hB, h⟩ := s.ha
  exact ⟨s.hl.kpN q, s.hX, ⟨B, hB, h.kpN q⟩⟩
theorem HouseQ.sat {c : Council} {n : Nat} (s : HouseQ g hb X v x w) (ho : HouseOk c n x) (hn : n ≤ 1000000) : SAt w.heap.size w X x := by
  obtain ⟨B, hB, h⟩ := s.ha
  rw [s.hX]
  exact h.sat ho hn
end
theorem put_houseQ {g ab B : Nat} {wb w : World} {v : Ky → Value} {a : House} (Q : Kp wb.heap.size none wb w) (YB : Blk w ab 43 zeroCells) (HA : HAt B w v a) (hap : ∀ k, (v k).ownBlock ≠ some ab) (hB : wb.heap.size ≤ ab) (X : HV) (hX : X = hvOf v) (hg : g < B) :
    ∃ wq, wq = putH w ab X a ∧ Kp wb.heap.size none wb wq ∧ HouseQ g ab X v a wq :=
  ⟨_, rfl, Q.grownN (putH_grown _ _ _ _) Q.size hB, ⟨Blk.setR0 YB _ _ _ _ _ _ _ _ _, hX, ⟨B, hg, HA.set (putH_grown _ _ _ _) hap⟩⟩⟩
end Go.Proofs.YtogpgnljomchcaaGreat
