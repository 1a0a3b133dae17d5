/-
  No cell of these rows narrows 'for every input' (looked for: loops, veiled, ifaces, maps, wideKeys, modest, calm, conditions, laid).
  DERIVED. THE GIVEN ROWS OF THIS SEAT. 2 by the template 'for every input the law returns true; each argument reads behind the call as it read before'; 0 by the template 'total and deterministic' (their statements: YtdhiappifnflpaaGreatTotals.lean).
  GIVEN WITH THE SEED: the statements are not yours to turn. If you find one false, say at which input.
  Laid BY PROGRAM, IN A SANDBOX (cutbox-rows.mjs): the forced cells as the released guide's own fill.sh prints them over the translation e49d1aa74f73719e… (all of the seat's roots in one cut). By AI agents, Wed Nov 11 2026. No macro, syntax, notation, axiom, sorry.
-/
import Derived.Test.YtdhiappifnflpaaGreatChecked
import GoSem.Claim
import GoSem.ClaimJoined
import GoSem.ClaimMapViews
import Derived.JoinedTies
import Derived.KernelRfl
namespace Go.Proofs.YtdhiappifnflpaaGreat
/- THE CELL 'sum', in the pinned program and in every row, IS THE sha256 OF THE DUMP (.gsa) THAT YtdhiappifnflpaaGreatProg.lean LOADS. Nothing in Lean hashes anything: it is a label: what it is worth is what the hold of that sum in a sandbox is worth. -/
noncomputable def Tryz.pinned : Pinned := { name := "ytdhiappifnflpaagreat", sum := "e49d1aa74f73719ed63c86bab7d009c276d80997756550f9b9628565a699c1ac", checked := Tryz.checked }
namespace Rows
def none {H : Type} : Left H := { results := [], args := [] }

/-- 'bolidetop.TopNarrows': WHATEVER THE INPUT: true; the input reads as it did. -/
def topNarrowsSpec : ChangeSpec := { name := "topNarrows", fn := fun _ => fun
  | [d] => { results := [.lit (.bool true)], args := [d] }
  | _ => none }
def topNarrowsRow : OpenClaim := { program := "ytdhiappifnflpaagreat", sum := "e49d1aa74f73719ed63c86bab7d009c276d80997756550f9b9628565a699c1ac", func := "bolide/bolidetop.TopNarrows", spec := "topNarrows", unfollowed := true, recurses := true, named := ["math/bits.divideError", "math/bits.overflowError"], apart := false }
def TopNarrowsSaid : Prop := topNarrowsRow.holds Tryz.pinned (OpenSpec.ofChange topNarrowsSpec)

/-- ITS FALSE NEIGHBOUR: 'it returns false'. Refute it at one input. -/
def topNarrowsWrong : ChangeSpec := { name := "topNarrows", fn := fun _ => fun
  | [d] => { results := [.lit (.bool false)], args := [d] }
  | _ => none }
def TopNarrowsWrongFalsely : Prop := topNarrowsRow.holds Tryz.pinned (OpenSpec.ofChange topNarrowsWrong)

/-- 'bolidetop.TopSightings': WHATEVER THE INPUT: true; the input reads as it did. -/
def topSightingsSpec : ChangeSpec := { name := "topSightings", fn := fun _ => fun
  | [d1, d2] => { results := [.lit (.bool true)], args := [d1, d2] }
  | _ => none }
def topSightingsRow : OpenClaim := { program := "ytdhiappifnflpaagreat", sum := "e49d1aa74f73719ed63c86bab7d009c276d80997756550f9b9628565a699c1ac", func := "bolide/bolidetop.TopSightings", spec := "topSightings", unfollowed := true, recurses := true, named := ["math/bits.divideError", "math/bits.overflowError"], apart := false }
def TopSightingsSaid : Prop := topSightingsRow.holds Tryz.pinned (OpenSpec.ofChange topSightingsSpec)

/-- ITS FALSE NEIGHBOUR: 'it returns false'. Refute it at one input. -/
def topSightingsWrong : ChangeSpec := { name := "topSightings", fn := fun _ => fun
  | [d1, d2] => { results := [.lit (.bool false)], args := [d1, d2] }
  | _ => none }
def TopSightingsWrongFalsely : Prop := topSightingsRow.holds Tryz.pinned (OpenSpec.ofChange topSightingsWrong)

/- THE SECOND FORM. 'bulk': how many values and letters a reading holds, each counted each time it is reached (what is shared counts as often as it is met; a slice's spare places count too). A statement '..UptoSaid' is the law's where the arguments, and the package variables that the reading takes, are together of bulk at most 1048576: NARROWER than '..Said'. Prove '..Said' where nothing that the law and all that it calls make is longer than what came in: it says more and counts as full. Else prove '..UptoSaid'. A law counts once. -/
mutual
def uptoBulk {H : Type} : DataW H → Nat
  | .lit (.string bytes) => bytes.length + 1
  | .lit _ => 1
  | .nil => 1
  | .ptr d => uptoBulk d + 1
  | .slice elems spare => uptoBulkAll elems + uptoBulkAll spare + 1
  | .agg parts => uptoBulkAll parts + 1
  | .iface _ d => uptoBulk d + 1
  | .map entries => uptoBulkEntries entries + 1
  | .held _ => 1
def uptoBulkAll {H : Type} : List (DataW H) → Nat
  | [] => 0
  | d :: r => uptoBulk d + uptoBulkAll r
def uptoBulkEntries {H : Type} : List (Lit × DataW H) → Nat
  | [] => 0
  | x :: r => uptoBulkEntry x + uptoBulkEntries r
def uptoBulkEntry {H : Type} : Lit × DataW H → Nat
  | (.string bytes, d) => bytes.length + uptoBulk d + 1
  | (_, d) => uptoBulk d + 1
 end
def uptoSmall : (H : Type) → List (DataW H) → Bool := fun _ ds => decide (uptoBulkAll ds ≤ 1048576)
def OpenSpec.upto (s : _root_.Go.ChangeSpec) : _root_.Go.OpenSpec := { _root_.Go.OpenSpec.ofChange s with cond := some uptoSmall }

/-- 'bolidetop.TopNarrows', WHERE WHAT IT READS IS OF BULK AT MOST 1048576: true; the input reads as it did. -/
def topNarrowsUptoRow : OpenClaim := { program := "ytdhiappifnflpaagreat", sum := "e49d1aa74f73719ed63c86bab7d009c276d80997756550f9b9628565a699c1ac", func := "bolide/bolidetop.TopNarrows", spec := "topNarrows", unfollowed := true, recurses := true, named := ["math/bits.divideError", "math/bits.overflowError"], apart := false, narrowed := true }
def TopNarrowsUptoSaid : Prop := topNarrowsUptoRow.holds Tryz.pinned (OpenSpec.upto topNarrowsSpec)

/-- 'bolidetop.TopSightings', WHERE WHAT IT READS IS OF BULK AT MOST 1048576: true; the input reads as it did. -/
def topSightingsUptoRow : OpenClaim := { program := "ytdhiappifnflpaagreat", sum := "e49d1aa74f73719ed63c86bab7d009c276d80997756550f9b9628565a699c1ac", func := "bolide/bolidetop.TopSightings", spec := "topSightings", unfollowed := true, recurses := true, named := ["math/bits.divideError", "math/bits.overflowError"], apart := false, narrowed := true }
def TopSightingsUptoSaid : Prop := topSightingsUptoRow.holds Tryz.pinned (OpenSpec.upto topSightingsSpec)

end Rows
end Go.Proofs.YtdhiappifnflpaaGreat
