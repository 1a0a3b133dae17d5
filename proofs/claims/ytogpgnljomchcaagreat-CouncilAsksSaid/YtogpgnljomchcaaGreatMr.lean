/- A list of items copied, one item laid behind it, and the house of that: the states of such a region in whatever order it goes. -/
import Derived.Test.YtogpgnljomchcaaGreatIo
import Derived.Test.YtogpgnljomchcaaGreatInv
import Derived.Deep.Upon
namespace Go.Proofs.YtogpgnljomchcaaGreat
open Go.RowKit

theorem HAt.set {B g : Nat} {w w' : World} {v : Ky → Value} {h : House} (r : HAt B w v h) (hg : w.grownBy w' (some g)) (ha : ∀ k, (v k).ownBlock ≠ some g) : HAt B w' v h := by
  obtain ⟨hb, r⟩ := r
  exact ⟨hb, ⟨fun k => World.ownsRow.kept (r.own k) hg (.inr (by rw [rowOf_v]; exact ha k)), r.ap, r.hb⟩⟩
theorem HAt.ge {B : Nat} {w : World} {v : Ky → Value} {h : House} (r : HAt B w v h) (k : Ky) (b : Nat) (e : (v k).ownBlock = some b) : B ≤ b ∧ b < w.heap.size := by
  obtain ⟨hb, r⟩ := r
  exact World.ownsRow.lt (r.own k) b (by rw [rowOf_v]; exact e)
theorem HAt.sat {B n : Nat} {w : World} {v : Ky → Value} {h : House} {c : Council} (r : HAt B w v h) (ho : HouseOk c n h) (hn : n ≤ 1000000) : SAt w.heap.size w (hvOf v) h := by
  obtain ⟨hb, r⟩ := r
  exact ⟨r.see ho hn false, r.see ho hn true⟩
theorem HAt.turn {B g : Nat} {w w' : World} {v : Ky → Value} {h : House} (r : HAt B w v h) (k : Kp w.heap.size (some g) w w') (hg : g < B) : HAt B w' v h :=
  r.set ⟨k.os, k.tape, k.output, k.size, k.block⟩ fun k e => by have := (r.ge k g e).1; omega
def putH (w : World) (g : Nat) (X : HV) (h : House) : World := setR0 w g (.int .i64 h.tick) (.int .i64 h.real.items) (.slice X.r.fa h.real.facts.length X.r.fc) (.slice X.r.ma h.real.motions.length X.r.mc) (.slice X.r.sa h.real.sent.length X.r.sc) (.int .i64 h.drill.items) (.slice X.d.fa h.drill.facts.length X.d.fc) (.slice X.d.ma h.drill.motions.length X.d.mc) (.slice X.d.sa h.drill.sent.length X.d.sc)
theorem putH_grown (w : World) (g : Nat) (X : HV) (h : House) : w.grownBy (putH w g X h) (some g) := setR0_grown _ _ _ _ _ _ _ _ _ _ _
theorem Kp.grownN {w w' : World} {B g : Nat} {w0 : World} (k : Kp B none w0 w) (hg : w.grownBy w' (some g)) (hB : B ≤ w.heap.size) (h : B ≤ g) : Kp B none w0 w' := k.grown hg hB (fun q e => by injection e with e; omega)
theorem emptyItems (w : World) (B : Nat) (hB : B ≤ w.heap.size) : Own (w.alloc (.cells #[] 36)) B 36 9 encItem (.slice (some ⟨w.heap.size, 0, none⟩) 0 0) [] :=
  ⟨rfl, .inr ⟨w.heap.size, 0, #[], rfl, hB, Blk.new w 36 #[], Nat.le_refl _, Nat.zero_le _, rfl, rfl⟩⟩
theorem Own.grownO {α : Type} {w w' : World} {B e sz : Nat} {enc : α → List Value} {v : Value} {xs : List α} {row : Option Nat} (h : Own w B e sz enc v xs) (hg : w.grownBy w' row) (hr : ∀ b, row = some b → v.ownBlock ≠ some b) : Own w' B e sz enc v xs := by
  refine World.ownsRow.kept h hg ?_
  cases hv : v.ownBlock with
  | none => exact .inl rfl
  | some b => exact .inr fun e => hr b e.symm hv
theorem Blk.grownO {w w' : World} {g : Nat} {t : TypeId} {cs : Array Value} {row : Option Nat} (h : Blk w g t cs) (hg : w.grownBy w' row) (hr : ∀ b, row = some b → g ≠ b) : Blk w' g t cs :=
  (hg.block g h.lt fun e => hr g e.symm rfl).trans h
theorem HAt.grownO {B : Nat} {w w' : World} {v : Ky → Value} {h : House} {row : Option Nat} (r : HAt B w v h) (hg : w.grownBy w' row) (hr : ∀ b, row = some b → ∀ k, (v k).ownBlock ≠ some b) : HAt B w' v h := by
  cases row with
  | none => exact r.kpN ⟨hg.os, hg.tape, hg.output, hg.size, fun k hk hn => hg.block k hk hn⟩
  | some b => exact r.set hg (hr b rfl)
theorem grown_new (w : World) (o : Obj) : w.grownBy (w.alloc o) none := World.grownBy_alloc w o none
/-- what the region has laid: letters, and which operations are done -/
structure GM where
  nb : Nat
  A3 : Option Addr
  c3 : Nat
  xb : Nat
  A6 : Option Addr
  c6 : Nat
  v : Ky → Value
  X : HV
  yb : Nat
  d1 : Bool
  d3 : Bool
  d5 : Bool
  d6 : Bool
  d7 : Bool
  d12 : Bool
  d13 : Bool
def zeroCells : Array Value := #[.int .i64 0, .int .i64 0, .slice none 0 0, .slice none 0 0, .slice none 0 0, .int .i64 0, .slice none 0 0, .slice none 0 0, .slice none 0 0]
def gm0 : GM := ⟨0, none, 0, 0, none, 0, nilV, hvOf nilV, 0, false, false, false, false, false, false, false⟩
def GM.own1 (γ : GM) : Value := .slice (some ⟨γ.nb, 0, none⟩) 0 0
def GM.own3 (γ : GM) (l : List CItem) : Value := .slice γ.A3 l.length γ.c3
def GM.own6 (γ : GM) (m : List CItem) : Value := .slice γ.A6 m.length γ.c6
structure LMore (wb : World) (l m : List CItem) (n : CItem) (y : House) (D : Nat → Bool) (γ : GM) (w : World) : Prop where
  kp : Kp wb.heap.size none wb w
  f1 : D 1 = γ.d1
  f3 : D 3 = γ.d3
  f5 : D 5 = γ.d5
  f6 : D 6 = γ.d6
  f7 : D 7 = γ.d7
  f12 : D 12 = γ.d12
  f13 : D 13 = γ.d13
  o3 : γ.d3 = true → γ.d1 = true
  o6 : γ.d6 = true → γ.d3 = true ∧ γ.d5 = true
  o7 : γ.d7 = true → γ.d6 = true
  o13 : γ.d13 = true → γ.d7 = true ∧ γ.d12 = true
  r1 : γ.d1 = true → γ.d3 = false → Own w wb.heap.size 36 9 encItem γ.own1 []
  r3 : γ.d3 = true → γ.d6 = false → Own w wb.heap.size 36 9 encItem (γ.own3 l) l
  r5 : γ.d5 = true → γ.d6 = false → Blk w γ.xb 36 #[.int .i64 n.kind, .int .i64 n.tick, .bool n.drill, .int .i64 n.a, .int .i64 n.b, .bool n.yes, .int .i64 n.chance.least, .int .i64 n.chance.most, .int .i64 n.chance.all]
  r6 : γ.d6 = true → γ.d7 = false → Own w wb.heap.size 36 9 encItem (γ.own6 m) m
  r7 : γ.d7 = true → (∃ B, wb.heap.size ≤ B ∧ HAt B w γ.v y) ∧ γ.X = hvOf γ.v
  r12 : γ.d12 = true → γ.d13 = false → Blk w γ.yb 43 zeroCells
  y12 : γ.d12 = true → wb.heap.size ≤ γ.yb ∧ γ.yb < w.heap.size
  a1 : γ.d1 = true → γ.d3 = false → (γ.d5 = true → γ.nb ≠ γ.xb) ∧ (γ.d12 = true → γ.nb ≠ γ.yb)
  a3 : γ.d3 = true → γ.d6 = false → (γ.d5 = true → (γ.own3 l).ownBlock ≠ some γ.xb) ∧ (γ.d12 = true → (γ.own3 l).ownBlock ≠ some γ.yb)
  a5 : γ.d5 = true → γ.d6 = false → γ.d12 = true → γ.xb ≠ γ.yb
  a7 : γ.d7 = true → γ.d12 = true → ∀ k, (γ.v k).ownBlock ≠ some γ.yb
  r13 : γ.d13 = true → Blk w γ.yb 43 #[.int .i64 y.tick, .int .i64 y.real.items, .slice γ.X.r.fa y.real.facts.length γ.X.r.fc, .slice γ.X.r.ma y.real.motions.length γ.X.r.mc, .slice γ.X.r.sa y.real.sent.length γ.X.r.sc, .int .i64 y.drill.items, .slice γ.X.d.fa y.drill.facts.length γ.X.d.fc, .slice γ.X.d.ma y.drill.motions.length γ.X.d.mc, .slice γ.X.d.sa y.drill.sent.length γ.X.d.sc]
section
variable {wb : World} {l m : List CItem} {n : CItem} {y : House} {D : Nat → Bool} {γ : GM} {w w' : World}
theorem LMore.start (K : Kp wb.heap.size none wb w) : LMore wb l m n y (fun _ => false) gm0 w :=
  ⟨K, rfl, rfl, rfl, rfl, rfl, rfl, rfl, (by intro h; cases h), (by intro h; cases h), (by intro h; cases h), (by intro h; cases h), (by intro h; cases h), (by intro h; cases h), (by intro h; cases h), (by intro h; cases h), (by intro h; cases h), (by intro h; cases h), (by intro h; cases h), (by intro h; cases h), (by intro h; cases h), (by intro h; cases h), (by intro h; cases h), (by intro h; cases h)⟩
theorem LMore.op5 (hD : D 5 = false) (hw : w' = w.alloc (.cells #[.int .i64 n.kind, .int .i64 n.tick, .bool n.drill, .int .i64 n.a, .int .i64 n.b, .bool n.yes, .int .i64 n.chance.least, .int .i64 n.chance.most, .int .i64 n.chance.all] 36)) (h : LMore wb l m n y D γ w) : LMore wb l m n y (fun j => j == 5 || D j) { γ with xb := w.heap.size, d5 := true } w' := by
  subst hw
  have e5 : γ.d5 = false := h.f5.symm.trans hD
  have e6 : γ.d6 = false := by
    cases q : γ.d6 with
    | false => rfl
    | true => exact absurd (h.o6 q).2 (by rw [e5]; decide)
  have e7 : γ.d7 = false := by
    cases q : γ.d7 with
    | false => rfl
    | true => exact absurd (h.o7 q) (by rw [e6]; decide)
  have e13 : γ.d13 = false := by
    cases q : γ.d13 with
    | false => rfl
    | true => exact absurd (h.o13 q).1 (by rw [e7]; decide)
  have hg := grown_new w (.cells #[.int .i64 n.kind, .int .i64 n.tick, .bool n.drill, .int .i64 n.a, .int .i64 n.b, .bool n.yes, .int .i64 n.chance.least, .int .i64 n.chance.most, .int .i64 n.chance.all] 36)
  exact {
    kp := h.kp.alloc h.kp.size _
    f1 := h.f1
    f3 := h.f3
    f5 := rfl
    f6 := h.f6
    f7 := h.f7
    f12 := h.f12
    f13 := h.f13
    o3 := h.o3
    o6 := fun p => ⟨(h.o6 p).1, rfl⟩
    o7 := h.o7
    o13 := h.o13
    r1 := fun p q => (h.r1 p q).grownO hg (fun b e => by cases e)
    r3 := fun p q => (h.r3 p q).grownO hg (fun b e => by cases e)
    r5 := fun _ _ => Blk.new w _ _
    r6 := fun p => absurd p (by show ¬ γ.d6 = true; rw [e6]; decide)
    r7 := fun p => absurd p (by show ¬ γ.d7 = true; rw [e7]; decide)
    r12 := fun p q => (h.r12 p q).grownO hg (fun b e => by cases e)
    y12 := fun p => ⟨(h.y12 p).1, by have := (h.y12 p).2; simp; omega⟩
    a1 := fun p q => ⟨fun _ => by have := ((h.r1 p q).ge γ.nb rfl).2; show γ.nb ≠ w.heap.size; omega, (h.a1 p q).2⟩
    a3 := fun p q => ⟨fun _ e => by have := ((h.r3 p q).ge w.heap.size e).2; omega, (h.a3 p q).2⟩
    a5 := fun _ _ p => by have := (h.y12 p).2; show w.heap.size ≠ γ.yb; omega
    a7 := h.a7
    r13 := fun p => absurd p (by show ¬ γ.d13 = true; rw [e13]; decide)
  }
theorem LMore.op12 (hD : D 12 = false) (hw : w' = w.alloc (.cells zeroCells 43)) (h : LMore wb l m n y D γ w) : LMore wb l m n y (fun j => j == 12 || D j) { γ with yb := w.heap.size, d12 := true } w' := by
  subst hw
  have e12 : γ.d12 = false := h.f12.symm.trans hD
  have e13 : γ.d13 = false := by
    cases q : γ.d13 with
    | false => rfl
    | true => exact absurd (h.o13 q).2 (by rw [e12]; decide)
  have hg := grown_new w (.cells zeroCells 43)
  exact {
    kp := h.kp.alloc h.kp.size _
    f1 := h.f1
    f3 := h.f3
    f5 := h.f5
    f6 := h.f6
    f7 := h.f7
    f12 := rfl
    f13 := h.f13
    o3 := h.o3
    o6 := h.o6
    o7 := h.o7
    o13 := fun p => ⟨(h.o13 p).1, rfl⟩
    r1 := fun p q => (h.r1 p q).grownO hg (fun b e => by cases e)
    r3 := fun p q => (h.r3 p q).grownO hg (fun b e => by cases e)
    r5 := fun p q => (h.r5 p q).grownO hg (fun b e => by cases e)
    r6 := fun p q => (h.r6 p q).grownO hg (fun b e => by cases e)
    r7 := fun p => by
      obtain ⟨⟨B, hB, HA⟩, hX⟩ := h.r7 p
      exact ⟨⟨B, hB, HA.grownO hg (fun b e => by cases e)⟩, hX⟩
    r12 := fun _ _ => Blk.new w _ _
    y12 := fun _ => ⟨h.kp.size, by simp⟩
    a1 := fun p q => ⟨(h.a1 p q).1, fun _ => by have := ((h.r1 p q).ge γ.nb rfl).2; show γ.nb ≠ w.heap.size; omega⟩
    a3 := fun p q => ⟨(h.a3 p q).1, fun _ e => by have := ((h.r3 p q).ge w.heap.size e).2; omega⟩
    a5 := fun p q _ => by have := (h.r5 p q).lt; show γ.xb ≠ w.heap.size; omega
    a7 := fun p _ k e => by
      obtain ⟨⟨B, hB, HA⟩, hX⟩ := h.r7 p
      have := (HA.ge k w.heap.size e).2
      omega
    r13 := fun p => absurd p (by show ¬ γ.d13 = true; rw [e13]; decide)
  }
theorem LMore.op13 (hD : D 13 = false) (h7 : γ.d7 = true) (h12 : γ.d12 = true) (hw : w' = putH w γ.yb γ.X y) (h : LMore wb l m n y D γ w) : LMore wb l m n y (fun j => j == 13 || D j) { γ with d13 := true } w' := by
  subst hw
  have e13 : γ.d13 = false := h.f13.symm.trans hD
  have hg := putH_grown w γ.yb γ.X y
  have h6 := h.o7 h7
  have h3 := (h.o6 h6).1
  exact {
    kp := h.kp.grownN hg h.kp.size (h.y12 h12).1
    f1 := h.f1
    f3 := h.f3
    f5 := h.f5
    f6 := h.f6
    f7 := h.f7
    f12 := h.f12
    f13 := rfl
    o3 := h.o3
    o6 := h.o6
    o7 := h.o7
    o13 := fun _ => ⟨h7, h12⟩
    r1 := fun _ q => absurd h3 (by rw [show γ.d3 = false from q]; decide)
    r3 := fun _ q => absurd h6 (by rw [show γ.d6 = false from q]; decide)
    r5 := fun _ q => absurd h6 (by rw [show γ.d6 = false from q]; decide)
    r6 := fun _ q => absurd h7 (by rw [show γ.d7 = false from q]; decide)
    r7 := fun p => by
      obtain ⟨⟨B, hB, HA⟩, hX⟩ := h.r7 p
      exact ⟨⟨B, hB, HA.set hg (h.a7 p h12)⟩, hX⟩
    r12 := fun _ q => by cases q
    y12 := fun p => ⟨(h.y12 p).1, Nat.lt_of_lt_of_le (h.y12 p).2 hg.size⟩
    a1 := h.a1
    a3 := h.a3
    a5 := h.a5
    a7 := h.a7
    r13 := fun _ => Blk.setR0 (h.r12 h12 e13) _ _ _ _ _ _ _ _ _
  }
end
end Go.Proofs.YtogpgnljomchcaaGreat
