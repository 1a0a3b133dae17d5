/- bolidekit.HasInt: whether a list of numbers has a number. -/
import Derived.Test.YtogpgnljomchcaaAw
namespace Go.Proofs.Ytogpgnljomchcaa
open Go.RowKit

set_option maxHeartbeats 1000000 in
theorem hasInt_any (A : Option Addr) (cap : Nat) (xs : List Int) (x : Int) (w : World) (hr : Rd none w 1 encI A xs.length xs) (hn : xs.length ≤ 1000000) :
    Calls Try.prog 42 #[.slice A xs.length cap, .int .i64 x] w fun e w' => e = .returned (.bool (decide (x ∈ xs))) ∧ Kp w.heap.size none w w' := by
  obtain ⟨R, hR⟩ : ∃ R, R = decide (x ∈ xs) := ⟨_, rfl⟩
  rw [← hR]
  replace hR := Lib.hid hR
  go_enter Try.func42, Try.ntmps42
  go_wp2_with fail
  go_loopw [5] (fun n wr => ∃ j : Nat, n = .int .i64 (j : Int) ∧ j ≤ xs.length ∧ x ∉ xs.take j ∧ Rd none wr 1 encI A xs.length xs ∧ Kp w.heap.size none w wr) (fun n _ => (xs.length - intOf n).toNat)
  case atStart => exact ⟨0, rfl, Nat.zero_le _, by simp, hr, Kp.refl _ _ _⟩
  case round =>
    clear hr
    obtain ⟨j, rfl, hj, hx, hr, K⟩ := hrel
    by_cases hj' : j < xs.length
    · have hjj : (j : Int) < (xs.length : Int) := by omega
      obtain ⟨b, o, eA, -, -, hc⟩ := hr.2 (by omega)
      have c0 : wr.cell? ⟨b, o + j, none⟩ = some (.int .i64 xs[j]) := by simpa using hc j hj' 0 _ rfl
      have ht : xs.take (j + 1) = xs.take j ++ [xs[j]] := List.take_succ_eq_append_getElem hj'
      subst eA
      clear hc
      obtain ⟨y, hy⟩ : ∃ y, y = xs[j] := ⟨_, rfl⟩
      rw [← hy] at c0 ht
      have hmem : y ∈ xs := by rw [hy]; exact List.getElem_mem hj'
      clear hy
      by_cases he : y = x
      · have he' : (y == x) = true := by simpa using he
        have hRt : R = true := by rw [hR.out, ← he]; simpa using hmem
        subst hRt
        clear hx ht hmem he hR
        go_wp2
        go_ret
        exact ⟨rfl, K⟩
      · have he' : (y == x) = false := by simpa using he
        have hx' : x ∉ xs.take (j + 1) := by rw [ht]; simp only [List.mem_append, List.mem_singleton, not_or]; exact ⟨hx, fun h => he h.symm⟩
        replace hx' := Lib.hid hx'
        clear hx ht hmem he
        go_wp2
        go_roundw
        case rel => exact ⟨j + 1, by congr 1, by omega, hx'.out, hr, K⟩
        case measure => simp [intOf]; omega
    · have hjj : ¬ (j : Int) < (xs.length : Int) := by omega
      have hRf : R = false := by
        rw [hR.out]
        rw [List.take_of_length_le (by omega)] at hx
        simpa using hx
      subst hRf
      clear hx hR
      go_wp2
      go_ret
      exact ⟨rfl, K⟩
end Go.Proofs.Ytogpgnljomchcaa
