/- bolidelaw09.long: what the statements cover. -/
import Derived.Test.YtogpgnljomchcaaGreatAw
namespace Go.Proofs.YtogpgnljomchcaaGreat
open Go.RowKit

def longB (c : Council) (n : Nat) : Bool := decide (70 < c.members.length ∨ 20 < c.laws.length ∨ 12 < c.levels.length ∨ (200 < n ∧ n ≠ 2001))
set_option maxRecDepth 20000 in
set_option maxHeartbeats 2000000 in
theorem long_any (V : CV) (c : Council) (A : Option Addr) (n cap : Nat) (w : World) :
    Calls Tryz.prog 13 #[.agg #[.slice V.am c.members.length V.cm, .slice V.al c.laws.length V.cl, .slice V.av c.levels.length V.cv], .slice A n cap] w fun e w' => e = .returned (.bool (longB c n)) ∧ Kp w.heap.size none w w' := by
  obtain ⟨R, hR⟩ : ∃ R, R = longB c n := ⟨_, rfl⟩
  rw [← hR]
  replace hR : Hid (R = decide (70 < c.members.length ∨ 20 < c.laws.length ∨ 12 < c.levels.length ∨ (200 < n ∧ n ≠ 2001))) := Lib.hid hR
  have B := Blk.new w 28 #[.slice V.am c.members.length V.cm, .slice V.al c.laws.length V.cl, .slice V.av c.levels.length V.cv]
  have K := Kp.new w (.cells #[.slice V.am c.members.length V.cm, .slice V.al c.laws.length V.cl, .slice V.av c.levels.length V.cv] 28)
  go_enter Tryz.func13, Tryz.ntmps13
  go_upto_region 1 with (fail)
  change Code.wp _ _ _ _ (w.alloc (.cells #[.slice V.am c.members.length V.cm, .slice V.al c.laws.length V.cl, .slice V.av c.levels.length V.cv] 28))
  obtain ⟨b, hb⟩ : ∃ q, q = w.heap.size := ⟨_, rfl⟩
  rw [← hb] at B
  try rw [← hb]
  generalize w.alloc (.cells #[.slice V.am c.members.length V.cm, .slice V.al c.laws.length V.cl, .slice V.av c.levels.length V.cv] 28) = w1 at B K ⊢
  replace hb := Lib.hid hb
  have cc := fun i => B.cell i
  by_cases h1 : 70 < c.members.length
  · have e1 : (70 : Int) < (c.members.length : Int) := by omega
    obtain rfl : R = true := by rw [hR.out]; exact decide_eq_true (.inl h1)
    clear h1
    go_wp2
    go_ret
    exact ⟨rfl, K⟩
  have e1 : ¬ (70 : Int) < (c.members.length : Int) := by omega
  by_cases h2 : 20 < c.laws.length
  · have e2 : (20 : Int) < (c.laws.length : Int) := by omega
    obtain rfl : R = true := by rw [hR.out]; exact decide_eq_true (.inr (.inl h2))
    clear h1 h2
    go_wp2
    go_ret
    exact ⟨rfl, K⟩
  have e2 : ¬ (20 : Int) < (c.laws.length : Int) := by omega
  by_cases h3 : 12 < c.levels.length
  · have e3 : (12 : Int) < (c.levels.length : Int) := by omega
    obtain rfl : R = true := by rw [hR.out]; exact decide_eq_true (.inr (.inr (.inl h3)))
    clear h1 h2 h3
    go_wp2
    go_ret
    exact ⟨rfl, K⟩
  have e3 : ¬ (12 : Int) < (c.levels.length : Int) := by omega
  by_cases h4 : 200 < n
  · have e4 : (200 : Int) < (n : Int) := by omega
    by_cases h5 : n = 2001
    · subst h5
      obtain rfl : R = false := by rw [hR.out]; exact decide_eq_false (by omega)
      clear h1 h2 h3 h4
      go_wp2
      go_ret
      exact ⟨rfl, K⟩
    · have e5 : ((n : Int) == 2001) = false := by simp only [beq_eq_false_iff_ne, ne_eq]; omega
      have e6 : ¬ (n : Int) = 2001 := by omega
      obtain rfl : R = true := by rw [hR.out]; exact decide_eq_true (.inr (.inr (.inr ⟨h4, h5⟩)))
      have e7 : ((n : Int) != 2001) = true := by simp [bne, e5]
      clear h1 h2 h3 h4
      go_wp2
      go_ret
      exact ⟨rfl, K⟩
  · have e4 : ¬ (200 : Int) < (n : Int) := by omega
    obtain rfl : R = false := by rw [hR.out]; exact decide_eq_false (by omega)
    clear h1 h2 h3 h4
    go_wp2
    go_ret
    exact ⟨rfl, K⟩
end Go.Proofs.YtogpgnljomchcaaGreat
