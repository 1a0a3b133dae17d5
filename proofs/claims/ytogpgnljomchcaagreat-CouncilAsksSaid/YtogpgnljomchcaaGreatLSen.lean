/- CouncilSent: the walk. -/
import Derived.Test.YtogpgnljomchcaaGreatMd
import Derived.Test.YtogpgnljomchcaaGreatOf
namespace Go.Proofs.YtogpgnljomchcaaGreat
open Go.RowKit

/-- a council's cell and a house's cell, and what they hold -/
structure Seen (W : World) (cb hb : Nat) (V : CV) (c : Council) (X : HV) (x : House) (w : World) : Prop where
  cl : Blk w cb 28 #[.slice V.am c.members.length V.cm, .slice V.al c.laws.length V.cl, .slice V.av c.levels.length V.cv]
  hl : Blk w hb 43 #[.int .i64 x.tick, .int .i64 x.real.items, .slice X.r.fa x.real.facts.length X.r.fc, .slice X.r.ma x.real.motions.length X.r.mc, .slice X.r.sa x.real.sent.length X.r.sc, .int .i64 x.drill.items, .slice X.d.fa x.drill.facts.length X.d.fc, .slice X.d.ma x.drill.motions.length X.d.mc, .slice X.d.sa x.drill.sent.length X.d.sc]
  ca : CAt w.heap.size w V c
  sa : SAt w.heap.size w X x
  kp : Kp W.heap.size none W w
theorem Seen.kpN {W : World} {cb hb : Nat} {V : CV} {c : Council} {X : HV} {x : House} {w w' : World} (s : Seen W cb hb V c X x w) (q : Kp w.heap.size none w w') : Seen W cb hb V c X x w' :=
  ⟨s.cl.kpN q, s.hl.kpN q, s.ca.next q, s.sa.next q, s.kp.thenN q (Nat.le_refl _)⟩
def SenAt (W : World) (cb hb : Nat) (V : CV) (c : Council) (X : HV) (x : House) (t : Int) (lv at_ i : Value) (wr : World) : Prop :=
  ∃ (l a q : Int) (j : Nat), lv = .int .i64 l ∧ at_ = .int .i64 a ∧ i = .int .i64 (j : Int) ∧ j ≤ x.real.sent.length ∧ sentOk t l a (x.real.sent.drop j) = some (beforeL x.real t, q) ∧ Seen W cb hb V c X x wr
end Go.Proofs.YtogpgnljomchcaaGreat
