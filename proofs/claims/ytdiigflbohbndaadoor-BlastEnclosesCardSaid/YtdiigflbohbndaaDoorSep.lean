/- Things that are made one after the other lie apart; a reading beside a cell that is written. -/
import Derived.Test.YtdiigflbohbndaaDoorRing
import Derived.Test.YtdiigflbohbndaaDoorFill
namespace Go.Proofs.YtdiigflbohbndaaDoor
open Go.RowKit

/-- 'S j b': thing j has block b. -/
structure Sep (S : Nat → Nat → Prop) (w : World) : Prop where
  lt : ∀ j b, S j b → b < w.heap.size
  ap : ∀ j k b, j ≠ k → S j b → S k b → False
theorem Sep.step {S S' : Nat → Nat → Prop} {w w' : World} (h : Sep S w) (i : Nat) (hw : w.heap.size ≤ w'.heap.size) (hS : ∀ j, j ≠ i → ∀ b, S' j b → S j b) (hi : ∀ b, S' i b → w.heap.size ≤ b ∧ b < w'.heap.size) : Sep S' w' := by
  refine ⟨fun j b hb => ?_, fun j k b hjk hj hk => ?_⟩
  · by_cases hji : j = i
    · subst hji; exact (hi b hb).2
    · exact Nat.lt_of_lt_of_le (h.lt j b (hS j hji b hb)) hw
  · by_cases hji : j = i
    · subst hji
      have h1 := (hi b hj).1
      have h2 := h.lt k b (hS k (Ne.symm hjk) b hk)
      omega
    · by_cases hki : k = i
      · subst hki
        have h1 := (hi b hk).1
        have h2 := h.lt j b (hS j hji b hj)
        omega
      · exact h.ap j k b hjk (hS j hji b hj) (hS k hki b hk)
theorem Sep.grow {S : Nat → Nat → Prop} {w w' : World} (h : Sep S w) (hw : w.heap.size ≤ w'.heap.size) : Sep S w' := ⟨fun j b hb => Nat.lt_of_lt_of_le (h.lt j b hb) hw, h.ap⟩
theorem Rd.setOther {α : Type} {row : Option Nat} {w : World} {sz n : Nat} {enc : α → List Value} {A : Option Addr} {xs : List α} (h : Rd row w sz enc A n xs) {p : Addr} (hne : ∀ ad, A = some ad → 0 < n → ad.block ≠ p.block) (u : Value) : Rd row (w.setCell p u) sz enc A n xs := by
  refine ⟨h.1, fun hn => ?_⟩
  obtain ⟨b, o, e, hb, hr, hc⟩ := h.2 hn
  have k := (Kp.refl w.heap.size (some p.block) w).setRow (p := p) rfl u
  exact ⟨b, o, e, Nat.lt_of_lt_of_le hb k.size, hr, fun i hi j v hv => (k.cell b _ hb (sne (hne _ e hn))).trans (hc i hi j v hv)⟩
theorem fill_size (b : Nat) : ∀ (vs : List Value) (j : Nat) (w : World), (fillAt w b j vs).heap.size = w.heap.size
  | [], _, _ => rfl
  | v :: vs, j, w => by
    unfold fillAt
    rw [fill_size b vs]
    simp
theorem Rd.fillOther {α : Type} {row : Option Nat} {sz n b : Nat} {enc : α → List Value} {A : Option Addr} {xs : List α} (hne : ∀ ad, A = some ad → 0 < n → ad.block ≠ b) : ∀ (vs : List Value) (j : Nat) (w : World), Rd row w sz enc A n xs → Rd row (fillAt w b j vs) sz enc A n xs
  | [], _, _, h => h
  | v :: vs, j, w, h => Rd.fillOther hne vs (j + 1) _ (h.setOther (p := ⟨b, j, none⟩) hne v)
theorem RingAt.fill {g b : Nat} {nums : List Int} {k : Nat} (hb : g < b) : ∀ (vs : List Value) (j : Nat) (w : World), RingAt w g nums k → RingAt (fillAt w b j vs) g nums k
  | [], _, _, h => h
  | v :: vs, j, w, h => RingAt.fill hb vs (j + 1) _ (RingAt.big h (p := ⟨b, j, none⟩) hb v)
theorem Sep.fill {S : Nat → Nat → Prop} {w : World} (h : Sep S w) (b j : Nat) (vs : List Value) : Sep S (fillAt w b j vs) := h.grow (by rw [fill_size]; exact Nat.le_refl _)
end Go.Proofs.YtdiigflbohbndaaDoor
