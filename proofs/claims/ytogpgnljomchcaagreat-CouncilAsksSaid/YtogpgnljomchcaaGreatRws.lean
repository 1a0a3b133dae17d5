/- The memory of a house: rows of its own that lie apart; slices that are read and lie below a bound. -/
import Derived.Test.YtogpgnljomchcaaGreatHouse
import Derived.Test.YtogpgnljomchcaaGreatMem
namespace Go.Proofs.YtogpgnljomchcaaGreat
open Go.RowKit

def encMember (x : Member) : List Value := [.int .i64 x.id, .int .i64 x.weight]
def encLaw (x : LawC) : List Value := [.int .i64 x.act, .int .i64 x.level, .int .i64 x.window, .int .i64 x.quorum, .int .i64 x.share]
def encChance (x : Chance) : List Value := [.int .i64 x.least, .int .i64 x.most, .int .i64 x.all]
def encI (x : Int) : List Value := [.int .i64 x]
def encItem (x : CItem) : List Value := [.int .i64 x.kind, .int .i64 x.tick, .bool x.drill, .int .i64 x.a, .int .i64 x.b, .bool x.yes, .int .i64 x.chance.least, .int .i64 x.chance.most, .int .i64 x.chance.all]
def encKnown (x : Known) : List Value := [.int .i64 x.target, .int .i64 x.level, .int .i64 x.item, .int .i64 x.chance.least, .int .i64 x.chance.most, .int .i64 x.chance.all]
def encMot (v : Value) (m : Motion) : List Value := [.int .i64 m.target, .int .i64 m.act, .int .i64 m.opened, .int .i64 m.state, .int .i64 m.yes, .int .i64 m.no, v, .int .i64 m.fact]
def encVM (p : Value × Motion) : List Value := encMot p.1 p.2
def encAlarm (x : Alarm) : List Value := [.int .i64 x.tick, .int .i64 x.target, .int .i64 x.level, .bool x.back]

/-! ### A slice that reads as a list, its block below B -/
def Lo {α : Type} (B : Nat) (w : World) (sz : Nat) (enc : α → List Value) (A : Option Addr) (n : Nat) (xs : List α) : Prop :=
  xs.length = n ∧ (0 < n → ∃ b o, A = some ⟨b, o, none⟩ ∧ b < B ∧ b < w.heap.size ∧
    ∀ i (hi : i < xs.length) j v, (enc xs[i])[j]? = some v → w.cell? ⟨b, o + (i * sz + j), none⟩ = some v)
section
variable {α : Type} {w w' : World} {sz n B B' : Nat} {enc : α → List Value} {A : Option Addr} {xs : List α}
theorem Lo.len (h : Lo B w sz enc A n xs) : xs.length = n := h.1
theorem Lo.kp (h : Lo B w sz enc A n xs) (hk : Kp B none w w') : Lo B w' sz enc A n xs := by
  refine ⟨h.1, fun hn => ?_⟩
  obtain ⟨b, o, e, hb, hs, hc⟩ := h.2 hn
  exact ⟨b, o, e, hb, Nat.lt_of_lt_of_le hs hk.size, fun i hi j v hv => (hk.cell b _ hb (by simp)).trans (hc i hi j v hv)⟩
theorem Lo.kpN (h : Lo B w sz enc A n xs) (hk : Kp w.heap.size none w w') : Lo B w' sz enc A n xs := by
  refine ⟨h.1, fun hn => ?_⟩
  obtain ⟨b, o, e, hb, hs, hc⟩ := h.2 hn
  exact ⟨b, o, e, hb, Nat.lt_of_lt_of_le hs hk.size, fun i hi j v hv => (hk.cell b _ hs (by simp)).trans (hc i hi j v hv)⟩
theorem Lo.wide (h : Lo B w sz enc A n xs) (hB : B ≤ B') : Lo B' w sz enc A n xs := by
  refine ⟨h.1, fun hn => ?_⟩
  obtain ⟨b, o, e, hb, hs, hc⟩ := h.2 hn
  exact ⟨b, o, e, by omega, hs, hc⟩
theorem Lo.of (h : Rd none w sz enc A n xs) : Lo w.heap.size w sz enc A n xs := by
  refine ⟨h.1, fun hn => ?_⟩
  obtain ⟨b, o, e, hb, _, hc⟩ := h.2 hn
  exact ⟨b, o, e, hb, hb, hc⟩
theorem Lo.rd (h : Lo B w sz enc A n xs) {row : Option Nat} (hr : ∀ b, row = some b → B ≤ b) : Rd row w sz enc A n xs := by
  refine ⟨h.1, fun hn => ?_⟩
  obtain ⟨b, o, e, hb, hs, hc⟩ := h.2 hn
  exact ⟨b, o, e, hs, fun e' => by have := hr b e'.symm; omega, hc⟩
theorem Lo.rdN (h : Lo B w sz enc A n xs) : Rd none w sz enc A n xs := h.rd (fun b e => by cases e)
theorem Lo.nil (B : Nat) (w : World) (sz : Nat) (enc : α → List Value) (A : Option Addr) : Lo B w sz enc A 0 [] := ⟨rfl, fun h => absurd h (by omega)⟩
end

/-! ### Rows that lie apart -/
inductive Ky where
  | facts (d : Bool)
  | motions (d : Bool)
  | sent (d : Bool)
  | voted (d : Bool) (i : Nat)
deriving DecidableEq
structure RowV where
  v : Value
  e : TypeId
  sz : Nat
  n : Nat
  xs : List Value
def upd (R : Ky → RowV) (k : Ky) (r : RowV) : Ky → RowV := fun j => if j = k then r else R j
theorem upd_same (R : Ky → RowV) (k : Ky) (r : RowV) : upd R k r k = r := if_pos rfl
theorem upd_ne (R : Ky → RowV) {k j : Ky} (r : RowV) (h : j ≠ k) : upd R k r j = R j := if_neg h
structure RowsAt (B hb : Nat) (w : World) (R : Ky → RowV) : Prop where
  own : ∀ k, w.ownsRow B (R k).e (R k).sz (R k).v (R k).n (R k).xs
  ap : ∀ k k' b, k ≠ k' → (R k).v.ownBlock = some b → (R k').v.ownBlock = some b → False
  hb : ∀ k b, (R k).v.ownBlock = some b → b ≠ hb
section
variable {B hb : Nat} {w w' : World} {R R' : Ky → RowV}
theorem RowsAt.kp (h : RowsAt B hb w R) (hk : Kp w.heap.size (some hb) w w') : RowsAt B hb w' R := by
  refine ⟨fun k => World.ownsRow.kept (h.own k) ⟨hk.os, hk.tape, hk.output, hk.size, hk.block⟩ ?_, h.ap, h.hb⟩
  cases hv : (R k).v.ownBlock with
  | none => exact .inl rfl
  | some b => exact .inr (sne (h.hb k b hv))
theorem RowsAt.kpN (h : RowsAt B hb w R) (hk : Kp w.heap.size none w w') : RowsAt B hb w' R := h.kp (hk.wide _)
/-- one row is another now -/
theorem RowsAt.step (h : RowsAt B hb w R) (k0 : Ky) {r : RowV} (hhb : hb < w.heap.size) (hg : w.grownBy w' (R k0).v.ownBlock) (ho : w'.ownsRow B r.e r.sz r.v r.n r.xs)
    (hat : r.v.ownBlock = (R k0).v.ownBlock ∨ ∀ b, r.v.ownBlock = some b → w.heap.size ≤ b) : RowsAt B hb w' (upd R k0 r) := by
  have hnew : ∀ b, r.v.ownBlock = some b → (R k0).v.ownBlock = some b ∨ w.heap.size ≤ b := fun b hb' => by
    rcases hat with hat | hat
    · exact .inl (hat ▸ hb')
    · exact .inr (hat b hb')
  have hold : ∀ k b, (R k).v.ownBlock = some b → b < w.heap.size := fun k b hb' => (World.ownsRow.lt (h.own k) b hb').2
  have hapk : ∀ k, k ≠ k0 → ∀ b, r.v.ownBlock = some b → (R k).v.ownBlock = some b → False := fun k hk b h1 h2 => by
    rcases hnew b h1 with h3 | h3
    · exact h.ap k k0 b hk h2 h3
    · have := hold k b h2; omega
  refine ⟨fun k => ?_, fun k k' b hkk h1 h2 => ?_, fun k b h1 => ?_⟩
  · by_cases hk : k = k0
    · subst hk; rw [upd_same]; exact ho
    · rw [upd_ne _ _ hk]
      refine World.ownsRow.kept (h.own k) hg ?_
      cases hv : (R k).v.ownBlock with
      | none => exact .inl rfl
      | some b => exact .inr fun e => h.ap k k0 b hk hv e.symm
  · by_cases hk : k = k0
    · subst hk
      rw [upd_same] at h1
      rw [upd_ne _ _ (Ne.symm hkk)] at h2
      exact hapk k' (Ne.symm hkk) b h1 h2
    · rw [upd_ne _ _ hk] at h1
      by_cases hk' : k' = k0
      · subst hk'
        rw [upd_same] at h2
        exact hapk k hk b h2 h1
      · rw [upd_ne _ _ hk'] at h2
        exact h.ap k k' b hkk h1 h2
  · by_cases hk : k = k0
    · subst hk
      rw [upd_same] at h1
      rcases hnew b h1 with h3 | h3
      · exact h.hb k b h3
      · omega
    · rw [upd_ne _ _ hk] at h1
      exact h.hb k b h1
theorem RowsAt.eq (h : RowsAt B hb w R) (e : ∀ k, R' k = R k) : RowsAt B hb w R' := by
  have : R' = R := funext e
  rw [this]; exact h
end

theorem flat_set {α : Type} {enc : α → List Value} {sz : Nat} (he : ∀ x, (enc x).length = sz) (u : Value) : ∀ (xs : List α) (i : Nat) (hi : i < xs.length) (j : Nat) (y : α), j < sz → enc y = (enc xs[i]).set j u → (xs.flatMap enc).set (i * sz + j) u = (xs.set i y).flatMap enc
  | x :: xs, 0, _, j, y, hj, e => by
    rw [List.flatMap_cons, List.set_append_left _ _ (by rw [he]; omega)]
    simp only [List.set_cons_zero, List.flatMap_cons]
    rw [e]
    simp
  | x :: xs, i + 1, hi, j, y, hj, e => by
    rw [List.flatMap_cons, List.set_append_right _ _ (by rw [he, Nat.succ_mul]; omega), he, Nat.succ_mul]
    rw [show i * sz + sz + j - sz = i * sz + j from by omega]
    simp only [List.set_cons_succ, List.flatMap_cons]
    rw [flat_set he u xs i (by simpa using hi) j y hj (by simpa using e)]
/-- one cell of a row -/
theorem Own.setAt {α : Type} {w : World} {B e sz n cap g : Nat} {enc : α → List Value} {xs : List α} (he : ∀ x, (enc x).length = sz) (h : Own w B e sz enc (.slice (some ⟨g, 0, none⟩) n cap) xs) (i : Nat) (hi : i < xs.length) (j : Nat) (hj : j < sz) (u : Value) (y : α) (hy : enc y = (enc xs[i]).set j u) :
    Own (w.setCell ⟨g, i * sz + j, none⟩ u) B e sz enc (.slice (some ⟨g, 0, none⟩) n cap) (xs.set i y) ∧ w.grownBy (w.setCell ⟨g, i * sz + j, none⟩ u) (some g) := by
  unfold Own at h ⊢
  have hn : n = xs.length := by
    rcases h.2 with ⟨h1, _⟩ | ⟨g', cap', cur, h1, _⟩
    · cases h1
    · simp only [Value.slice.injEq] at h1; exact h1.2.1
  subst hn
  have := World.ownsRow.stored h (i * sz + j) u
  rw [flat_set he u xs i hi j y hj hy] at this
  rw [List.length_set]
  exact this

/-! ### The rows of a house -/
def zipV (f : Nat → Value) : Nat → List Motion → List (Value × Motion)
  | _, [] => []
  | i, m :: r => (f i, m) :: zipV f (i + 1) r
theorem zipV_len (f : Nat → Value) : ∀ (i : Nat) (l : List Motion), (zipV f i l).length = l.length
  | _, [] => rfl
  | i, m :: r => by simp [zipV, zipV_len f (i + 1) r]
theorem zipV_at (f : Nat → Value) : ∀ (l : List Motion) (i j : Nat) (hj : j < l.length), (zipV f i l)[j]'(by rw [zipV_len]; exact hj) = (f (i + j), l[j])
  | m :: r, i, 0, _ => rfl
  | m :: r, i, j + 1, h => by
    simp only [zipV, List.getElem_cons_succ]
    rw [zipV_at f r (i + 1) j (by simpa using h)]
    congr 2
    omega
theorem zipV_app (f : Nat → Value) : ∀ (l r : List Motion) (i : Nat), zipV f i (l ++ r) = zipV f i l ++ zipV f (i + l.length) r
  | [], r, i => by simp [zipV]
  | m :: l, r, i => by
    simp only [List.cons_append, zipV, zipV_app f l r (i + 1), List.length_cons]
    rw [show i + 1 + l.length = i + (l.length + 1) from by omega]
theorem zipV_set (f : Nat → Value) (m : Motion) : ∀ (l : List Motion) (i j : Nat), zipV f i (l.set j m) = (zipV f i l).set j (f (i + j), m)
  | [], i, j => by simp [zipV]
  | x :: l, i, 0 => by simp [zipV]
  | x :: l, i, j + 1 => by
    simp only [List.set_cons_succ, zipV, zipV_set f m l (i + 1) j]
    rw [show i + 1 + j = i + (j + 1) from by omega]
theorem zipV_congr {f g : Nat → Value} : ∀ (l : List Motion) (i : Nat), (∀ j, i ≤ j → j < i + l.length → f j = g j) → zipV f i l = zipV g i l
  | [], _, _ => rfl
  | m :: r, i, h => by
    simp only [zipV]
    rw [h i (Nat.le_refl _) (by simp), zipV_congr r (i + 1) fun j h1 h2 => h j (by omega) (by simp; omega)]
theorem zipV_upd (f : Nat → Value) (u : Value) (l : List Motion) (j : Nat) (hj : j < l.length) : zipV (fun k => if k = j then u else f k) 0 l = (zipV f 0 l).set j (u, l[j]) := by
  apply List.ext_getElem
  · simp [zipV_len]
  · intro i h1 h2
    have hi : i < l.length := by simpa [zipV_len] using h1
    rw [zipV_at _ l 0 i hi, List.getElem_set]
    by_cases hij : j = i
    · subst hij; simp
    · rw [if_neg hij, zipV_at _ l 0 i hi]
      simp only [Nat.zero_add]
      rw [if_neg (Ne.symm hij)]

def vOf : Option Motion → List Int
  | some m => m.voted
  | none => []
def votedOf (l : Ledger) (i : Nat) : List Int := vOf l.motions[i]?
/-- the rows of a house, 'v' the slices as they stand -/
def rowOf (h : House) (v : Ky → Value) : Ky → RowV
  | .facts d => ⟨v (.facts d), 68, 6, (h.led d).facts.length, (h.led d).facts.flatMap encKnown⟩
  | .motions d => ⟨v (.motions d), 52, 8, (h.led d).motions.length, (zipV (fun i => v (.voted d i)) 0 (h.led d).motions).flatMap encVM⟩
  | .sent d => ⟨v (.sent d), 106, 4, (h.led d).sent.length, (h.led d).sent.flatMap encAlarm⟩
  | .voted d i => ⟨v (.voted d i), 3, 1, (votedOf (h.led d) i).length, (votedOf (h.led d) i).flatMap encI⟩
theorem rowOf_v (h : House) (v : Ky → Value) (k : Ky) : (rowOf h v k).v = v k := by cases k <;> rfl
theorem RowsAt.zero (B hb : Nat) (w : World) : RowsAt B hb w (rowOf zeroHouse fun _ => .slice none 0 0) := by
  refine ⟨fun k => ?_, fun k k' b _ h1 _ => ?_, fun k b h1 => ?_⟩
  · cases k with
    | facts d => cases d <;> exact World.ownsRow_nil w B _ _
    | motions d => cases d <;> exact World.ownsRow_nil w B _ _
    | sent d => cases d <;> exact World.ownsRow_nil w B _ _
    | voted d i => cases d <;> exact World.ownsRow_nil w B _ _
  · rw [rowOf_v] at h1; cases h1
  · rw [rowOf_v] at h1; cases h1
section
variable {B hb : Nat} {w : World} {h : House} {v : Ky → Value}
theorem RowsAt.facts (hr : RowsAt B hb w (rowOf h v)) (d : Bool) : Own w B 68 6 encKnown (v (.facts d)) (h.led d).facts := hr.own (.facts d)
theorem RowsAt.sent (hr : RowsAt B hb w (rowOf h v)) (d : Bool) : Own w B 106 4 encAlarm (v (.sent d)) (h.led d).sent := hr.own (.sent d)
theorem RowsAt.motions (hr : RowsAt B hb w (rowOf h v)) (d : Bool) : Own w B 52 8 encVM (v (.motions d)) (zipV (fun i => v (.voted d i)) 0 (h.led d).motions) := by
  have := hr.own (.motions d)
  unfold Own
  rw [zipV_len]
  exact this
theorem RowsAt.voted (hr : RowsAt B hb w (rowOf h v)) (d : Bool) (i : Nat) : Own w B 3 1 encI (v (.voted d i)) (votedOf (h.led d) i) := hr.own (.voted d i)
end
end Go.Proofs.YtogpgnljomchcaaGreat
