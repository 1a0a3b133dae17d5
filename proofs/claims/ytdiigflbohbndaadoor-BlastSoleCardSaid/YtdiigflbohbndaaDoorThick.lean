/- Layers made thicker, one after the other. -/
import Derived.Test.YtdiigflbohbndaaDoorLaw1
import Derived.Test.YtdiigflbohbndaaDoorPlain2
import Derived.Laws.OwnMore
namespace Go.Proofs.YtdiigflbohbndaaDoor
open Go.RowKit

def thickTo (m : Int) : List Layer → Nat → List Layer
  | [], _ => []
  | x :: xs, 0 => x :: xs
  | x :: xs, i + 1 => ⟨x.thick + m, x.dens⟩ :: thickTo m xs i
theorem thick_len (m : Int) : ∀ (xs : List Layer) (i : Nat), (thickTo m xs i).length = xs.length
  | [], _ => rfl
  | _ :: _, 0 => rfl
  | x :: xs, i + 1 => by simp [thickTo, thick_len m xs i]
theorem thick_zero (m : Int) (xs : List Layer) : thickTo m xs 0 = xs := by cases xs <;> rfl
theorem thick_succ (m : Int) : ∀ (xs : List Layer) (i : Nat) (hi : i < xs.length), thickTo m xs (i + 1) = (thickTo m xs i).set i ⟨xs[i].thick + m, xs[i].dens⟩
  | x :: xs, 0, _ => by simp [thickTo, thick_zero]
  | x :: xs, i + 1, hi => by
    have := thick_succ m xs i (by simpa using hi)
    simp only [thickTo, List.set_cons_succ, List.getElem_cons_succ]
    rw [← this]
theorem thick_at (m : Int) : ∀ (xs : List Layer) (i : Nat) (hi : i < xs.length), (thickTo m xs i)[i]'(by rw [thick_len]; exact hi) = xs[i]
  | x :: xs, 0, _ => by simp [thickTo]
  | x :: xs, i + 1, hi => by simpa [thickTo] using thick_at m xs i (by simpa using hi)
theorem thicker_all (m : Int) (hm : 0 ≤ m) : ∀ (xs : List Layer), Thicker xs (thickTo m xs xs.length)
  | [] => trivial
  | x :: xs => ⟨rfl, by show x.thick ≤ x.thick + m; omega, thicker_all m hm xs⟩
theorem thick_ok (m : Int) (h0 : 0 ≤ m) (h1 : m < 100) : ∀ (xs : List Layer) (i : Nat), (∀ x ∈ xs, LayerOk x) → ∀ y ∈ thickTo m xs i, LayOk y
  | [], _, _, y, hy => absurd hy (by simp [thickTo])
  | x :: xs, 0, h, y, hy => by
    obtain ⟨a, b, c, d⟩ := h y (by simpa [thickTo] using hy)
    exact ⟨⟨a, by omega⟩, c, d⟩
  | x :: xs, i + 1, h, y, hy => by
    rcases List.mem_cons.1 (show y ∈ (⟨x.thick + m, x.dens⟩ : Layer) :: thickTo m xs i from hy) with rfl | hy
    · obtain ⟨a, b, c, d⟩ := h x (List.mem_cons_self)
      exact ⟨⟨by show 1 ≤ x.thick + m; omega, by show x.thick + m ≤ 1000; omega⟩, c, d⟩
    · exact thick_ok m h0 h1 xs i (fun z hz => h z (List.mem_cons_of_mem _ hz)) y hy
theorem flat_set : ∀ (xs : List Layer) (i : Nat) (_ : i < xs.length) (t : Int), ((xs.set i ⟨t, (xs[i]?.getD ⟨0, 0⟩).dens⟩).flatMap encLayer) = (xs.flatMap encLayer).set (i * 2) (.int .i64 t)
  | x :: xs, 0, _, t => by simp [encLayer]
  | x :: xs, i + 1, hi, t => by
    have := flat_set xs i (by simpa using hi) t
    simp only [List.set_cons_succ, List.flatMap_cons, encLayer, List.cons_append, List.nil_append]
    rw [show (i + 1) * 2 = i * 2 + 1 + 1 by omega, List.set_cons_succ, List.set_cons_succ]
    simp only [List.getElem?_cons_succ]
    rw [← this]
end Go.Proofs.YtdiigflbohbndaaDoor
