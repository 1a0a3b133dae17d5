/- A block that is written whole, cell by cell. -/
import Derived.Test.YtdiigflbohbndaaDoorMem
namespace Go.Proofs.YtdiigflbohbndaaDoor
open Go.RowKit

def fillAt (w : World) (b : Nat) : Nat → List Value → World
  | _, [] => w
  | j, v :: vs => fillAt (w.setCell ⟨b, j, none⟩ v) b (j + 1) vs
theorem Blk.fillFar {w : World} {g b : Nat} {t : TypeId} {cs : Array Value} (h : Blk w g t cs) (hne : g ≠ b) : ∀ (vs : List Value) (j : Nat), Blk (fillAt w b j vs) g t cs
  | [], _ => h
  | v :: vs, j => Blk.fillFar (h.far (p := ⟨b, j, none⟩) hne v) hne vs (j + 1)
theorem Kp.fill {B b : Nat} {row : Option Nat} {w w' : World} (h : Kp B row w w') (hb : B ≤ b) : ∀ (vs : List Value) (j : Nat), Kp B row w (fillAt w' b j vs)
  | [], _ => h
  | v :: vs, j => Kp.fill (h.setNew (p := ⟨b, j, none⟩) hb v) hb vs (j + 1)
theorem Rd.fill {α : Type} {b sz n : Nat} {w : World} {enc : α → List Value} {A : Option Addr} {xs : List α} (h : Rd (some b) w sz enc A n xs) : ∀ (vs : List Value) (j : Nat), Rd (some b) (fillAt w b j vs) sz enc A n xs
  | [], _ => h
  | v :: vs, j => Rd.fill (h.setCell (p := ⟨b, j, none⟩) rfl v) vs (j + 1)
theorem Blk.fill2 {w : World} {b : Nat} {t : TypeId} {x0 x1 : Value} (v0 v1 : Value) (h : Blk w b t #[x0, x1]) : Blk (fillAt w b 0 [v0, v1]) b t #[v0, v1] := by
  have h2 := ((h.set_ 0 v0).set_ 1 v1)
  simp only [List.setIfInBounds_toArray, List.set_cons_zero, List.set_cons_succ] at h2
  exact h2
theorem Blk.fill4 {w : World} {b : Nat} {t : TypeId} {x0 x1 x2 x3 : Value} (v0 v1 v2 v3 : Value) (h : Blk w b t #[x0, x1, x2, x3]) : Blk (fillAt w b 0 [v0, v1, v2, v3]) b t #[v0, v1, v2, v3] := by
  have h2 := ((((h.set_ 0 v0).set_ 1 v1).set_ 2 v2).set_ 3 v3)
  simp only [List.setIfInBounds_toArray, List.set_cons_zero, List.set_cons_succ] at h2
  exact h2
theorem Blk.fill8 {w : World} {b : Nat} {t : TypeId} {x0 x1 x2 x3 x4 x5 x6 x7 : Value} (v0 v1 v2 v3 v4 v5 v6 v7 : Value) (h : Blk w b t #[x0, x1, x2, x3, x4, x5, x6, x7]) : Blk (fillAt w b 0 [v0, v1, v2, v3, v4, v5, v6, v7]) b t #[v0, v1, v2, v3, v4, v5, v6, v7] := by
  have h2 := ((((((((h.set_ 0 v0).set_ 1 v1).set_ 2 v2).set_ 3 v3).set_ 4 v4).set_ 5 v5).set_ 6 v6).set_ 7 v7)
  simp only [List.setIfInBounds_toArray, List.set_cons_zero, List.set_cons_succ] at h2
  exact h2
theorem Blk.fill11 {w : World} {b : Nat} {t : TypeId} {x0 x1 x2 x3 x4 x5 x6 x7 x8 x9 x10 : Value} (v0 v1 v2 v3 v4 v5 v6 v7 v8 v9 v10 : Value) (h : Blk w b t #[x0, x1, x2, x3, x4, x5, x6, x7, x8, x9, x10]) : Blk (fillAt w b 0 [v0, v1, v2, v3, v4, v5, v6, v7, v8, v9, v10]) b t #[v0, v1, v2, v3, v4, v5, v6, v7, v8, v9, v10] := by
  have h2 := (((((((((((h.set_ 0 v0).set_ 1 v1).set_ 2 v2).set_ 3 v3).set_ 4 v4).set_ 5 v5).set_ 6 v6).set_ 7 v7).set_ 8 v8).set_ 9 v9).set_ 10 v10)
  simp only [List.setIfInBounds_toArray, List.set_cons_zero, List.set_cons_succ] at h2
  exact h2
end Go.Proofs.YtdiigflbohbndaaDoor
