/- made: a ring, a council and items made of numbers. -/
import Derived.Test.YtogpgnljomchcaaGreatIo
namespace Go.Proofs.YtogpgnljomchcaaGreat
open Go.RowKit

def MadePost (nums : List Int) (w : World) (e : Ending) (w' : World) : Prop :=
  ∃ (g : Nat) (V : CV) (c : Council) (A : Option Addr) (cap : Nat) (l : List CItem) (x : House) (k : Nat), e = .returned (.tuple #[.pointer (some ⟨g, 0, none⟩), .agg #[.slice V.am c.members.length V.cm, .slice V.al c.laws.length V.cl, .slice V.av c.levels.length V.cv], .slice A l.length cap]) ∧ COk c ∧ l.length ≤ 16 ∧ Did c zeroHouse l x ∧
    CAt w'.heap.size w' V c ∧ CFar V (g + 1) ∧ Rd (some g) w' 9 encItem A l.length l ∧ k ≤ 1100 ∧ RingAt w' g nums k ∧ w.heap.size ≤ g ∧ Kp w.heap.size none w w'
def MadeC (nums : List Int) (w : World) (e : Ending) (w' : World) : Prop :=
  ∃ (g : Nat) (V : CV) (c : Council) (A : Option Addr) (cap : Nat) (l : List CItem) (x : House) (k : Nat), e = .returned (.tuple #[.pointer (some ⟨g, 0, none⟩), .agg #[.slice V.am c.members.length V.cm, .slice V.al c.laws.length V.cl, .slice V.av c.levels.length V.cv], .slice A l.length cap]) ∧ COk c ∧ l.length ≤ 16 ∧ Did c zeroHouse l x ∧
    CAt w'.heap.size w' V c ∧ CFar V (g + 1) ∧ Rd (some g) w' 9 encItem A l.length l ∧ k ≤ 1100 ∧ RingAt w' g nums k ∧ w.heap.size ≤ g ∧ Kp w.heap.size none w w' ∧ l.length ≤ cap
end Go.Proofs.YtogpgnljomchcaaGreat
