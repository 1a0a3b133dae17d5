/-
  No cell of these rows narrows 'for every input' (looked for: loops, veiled, ifaces, maps, wideKeys, modest, calm, conditions, laid).
  DERIVED. THE GIVEN ROWS OF THIS SEAT. 9 by the template 'for every input the law returns true; each argument reads behind the call as it read before'; 0 by the template 'total and deterministic' (their statements: YtogpgnljomchcaaTotals.lean).
  GIVEN WITH THE SEED: the statements are not yours to turn. If you find one false, say at which input.
  Laid BY PROGRAM, IN A SANDBOX (cutbox-rows.mjs): the forced cells as the released guide's own fill.sh prints them over the translation 4565144804422166… (all of the seat's roots in one cut). By AI agents, Wed Nov 11 2026. No macro, syntax, notation, axiom, sorry.
-/
import Derived.Test.YtogpgnljomchcaaChecked
import GoSem.Claim
import GoSem.ClaimJoined
import GoSem.ClaimMapViews
import Derived.JoinedTies
import Derived.KernelRfl
namespace Go.Proofs.Ytogpgnljomchcaa
/- THE CELL 'sum', in the pinned program and in every row, IS THE sha256 OF THE DUMP (.gsa) THAT YtogpgnljomchcaaProg.lean LOADS. Nothing in Lean hashes anything: it is a label: what it is worth is what the hold of that sum in a sandbox is worth. -/
noncomputable def Try.pinned : Pinned := { name := "ytogpgnljomchcaa", sum := "45651448044221665ce19c7c3a2d9b39760729985a495e0b566f22f72a82b81b", checked := Try.checked }
namespace Rows
def none {H : Type} : Left H := { results := [], args := [] }

/-- 'bolidelaw09.CouncilBuilds': WHATEVER THE INPUT: true; the input reads as it did. -/
def councilBuildsSpec : ChangeSpec := { name := "councilBuilds", fn := fun _ => fun
  | [d1, d2, d3, d4] => { results := [.lit (.bool true)], args := [d1, d2, d3, d4] }
  | _ => none }
def councilBuildsRow : OpenClaim := { program := "ytogpgnljomchcaa", sum := "45651448044221665ce19c7c3a2d9b39760729985a495e0b566f22f72a82b81b", func := "bolide/bolidelaw09.CouncilBuilds", spec := "councilBuilds", inPlace := ["slices.overlaps[bolide/api.Known]"], unfollowed := true, recurses := true, apart := false }
def CouncilBuildsSaid : Prop := councilBuildsRow.holds Try.pinned (OpenSpec.ofChange councilBuildsSpec)

/-- ITS FALSE NEIGHBOUR: 'it returns false'. Refute it at one input. -/
def councilBuildsWrong : ChangeSpec := { name := "councilBuilds", fn := fun _ => fun
  | [d1, d2, d3, d4] => { results := [.lit (.bool false)], args := [d1, d2, d3, d4] }
  | _ => none }
def CouncilBuildsWrongFalsely : Prop := councilBuildsRow.holds Try.pinned (OpenSpec.ofChange councilBuildsWrong)

/-- 'bolidelaw09.CouncilLevels': WHATEVER THE INPUT: true; the input reads as it did. -/
def councilLevelsSpec : ChangeSpec := { name := "councilLevels", fn := fun _ => fun
  | [d1, d2, d3] => { results := [.lit (.bool true)], args := [d1, d2, d3] }
  | _ => none }
def councilLevelsRow : OpenClaim := { program := "ytogpgnljomchcaa", sum := "45651448044221665ce19c7c3a2d9b39760729985a495e0b566f22f72a82b81b", func := "bolide/bolidelaw09.CouncilLevels", spec := "councilLevels", inPlace := ["slices.overlaps[bolide/api.Known]"], unfollowed := true, recurses := true, apart := false }
def CouncilLevelsSaid : Prop := councilLevelsRow.holds Try.pinned (OpenSpec.ofChange councilLevelsSpec)

/-- ITS FALSE NEIGHBOUR: 'it returns false'. Refute it at one input. -/
def councilLevelsWrong : ChangeSpec := { name := "councilLevels", fn := fun _ => fun
  | [d1, d2, d3] => { results := [.lit (.bool false)], args := [d1, d2, d3] }
  | _ => none }
def CouncilLevelsWrongFalsely : Prop := councilLevelsRow.holds Try.pinned (OpenSpec.ofChange councilLevelsWrong)

/-- 'bolidelaw09.CouncilChecks': WHATEVER THE INPUT: true; the input reads as it did. -/
def councilChecksSpec : ChangeSpec := { name := "councilChecks", fn := fun _ => fun
  | [d1, d2, d3, d4, d5, d6] => { results := [.lit (.bool true)], args := [d1, d2, d3, d4, d5, d6] }
  | _ => none }
def councilChecksRow : OpenClaim := { program := "ytogpgnljomchcaa", sum := "45651448044221665ce19c7c3a2d9b39760729985a495e0b566f22f72a82b81b", func := "bolide/bolidelaw09.CouncilChecks", spec := "councilChecks", inPlace := ["slices.overlaps[bolide/api.Known]"], unfollowed := true, recurses := true, apart := false }
def CouncilChecksSaid : Prop := councilChecksRow.holds Try.pinned (OpenSpec.ofChange councilChecksSpec)

/-- ITS FALSE NEIGHBOUR: 'it returns false'. Refute it at one input. -/
def councilChecksWrong : ChangeSpec := { name := "councilChecks", fn := fun _ => fun
  | [d1, d2, d3, d4, d5, d6] => { results := [.lit (.bool false)], args := [d1, d2, d3, d4, d5, d6] }
  | _ => none }
def CouncilChecksWrongFalsely : Prop := councilChecksRow.holds Try.pinned (OpenSpec.ofChange councilChecksWrong)

/-- 'bolidelaw09.CouncilSent': WHATEVER THE INPUT: true; the input reads as it did. -/
def councilSentSpec : ChangeSpec := { name := "councilSent", fn := fun _ => fun
  | [d] => { results := [.lit (.bool true)], args := [d] }
  | _ => none }
def councilSentRow : OpenClaim := { program := "ytogpgnljomchcaa", sum := "45651448044221665ce19c7c3a2d9b39760729985a495e0b566f22f72a82b81b", func := "bolide/bolidelaw09.CouncilSent", spec := "councilSent", inPlace := ["slices.overlaps[bolide/api.Known]"], unfollowed := true, recurses := true, apart := false }
def CouncilSentSaid : Prop := councilSentRow.holds Try.pinned (OpenSpec.ofChange councilSentSpec)

/-- ITS FALSE NEIGHBOUR: 'it returns false'. Refute it at one input. -/
def councilSentWrong : ChangeSpec := { name := "councilSent", fn := fun _ => fun
  | [d] => { results := [.lit (.bool false)], args := [d] }
  | _ => none }
def CouncilSentWrongFalsely : Prop := councilSentRow.holds Try.pinned (OpenSpec.ofChange councilSentWrong)

/-- 'bolidelaw09.CouncilOpen': WHATEVER THE INPUT: true; the input reads as it did. -/
def councilOpenSpec : ChangeSpec := { name := "councilOpen", fn := fun _ => fun
  | [d] => { results := [.lit (.bool true)], args := [d] }
  | _ => none }
def councilOpenRow : OpenClaim := { program := "ytogpgnljomchcaa", sum := "45651448044221665ce19c7c3a2d9b39760729985a495e0b566f22f72a82b81b", func := "bolide/bolidelaw09.CouncilOpen", spec := "councilOpen", inPlace := ["slices.overlaps[bolide/api.Known]"], unfollowed := true, recurses := true, apart := false }
def CouncilOpenSaid : Prop := councilOpenRow.holds Try.pinned (OpenSpec.ofChange councilOpenSpec)

/-- ITS FALSE NEIGHBOUR: 'it returns false'. Refute it at one input. -/
def councilOpenWrong : ChangeSpec := { name := "councilOpen", fn := fun _ => fun
  | [d] => { results := [.lit (.bool false)], args := [d] }
  | _ => none }
def CouncilOpenWrongFalsely : Prop := councilOpenRow.holds Try.pinned (OpenSpec.ofChange councilOpenWrong)

/-- 'bolidelaw09.CouncilKnown': WHATEVER THE INPUT: true; the input reads as it did. -/
def councilKnownSpec : ChangeSpec := { name := "councilKnown", fn := fun _ => fun
  | [] => { results := [.lit (.bool true)], args := [] }
  | _ => none }
def councilKnownRow : OpenClaim := { program := "ytogpgnljomchcaa", sum := "45651448044221665ce19c7c3a2d9b39760729985a495e0b566f22f72a82b81b", func := "bolide/bolidelaw09.CouncilKnown", spec := "councilKnown", inPlace := ["slices.overlaps[bolide/api.Known]"], unfollowed := true, recurses := true, apart := false }
def CouncilKnownSaid : Prop := councilKnownRow.holds Try.pinned (OpenSpec.ofChange councilKnownSpec)

/-- ITS FALSE NEIGHBOUR: 'it returns false'. Refute it at one input. -/
def councilKnownWrong : ChangeSpec := { name := "councilKnown", fn := fun _ => fun
  | [] => { results := [.lit (.bool false)], args := [] }
  | _ => none }
def CouncilKnownWrongFalsely : Prop := councilKnownRow.holds Try.pinned (OpenSpec.ofChange councilKnownWrong)

/-- 'bolidelaw09.CouncilPasses': WHATEVER THE INPUT: true; the input reads as it did. -/
def councilPassesSpec : ChangeSpec := { name := "councilPasses", fn := fun _ => fun
  | [d] => { results := [.lit (.bool true)], args := [d] }
  | _ => none }
def councilPassesRow : OpenClaim := { program := "ytogpgnljomchcaa", sum := "45651448044221665ce19c7c3a2d9b39760729985a495e0b566f22f72a82b81b", func := "bolide/bolidelaw09.CouncilPasses", spec := "councilPasses", inPlace := ["slices.overlaps[bolide/api.Known]"], unfollowed := true, recurses := true, apart := false }
def CouncilPassesSaid : Prop := councilPassesRow.holds Try.pinned (OpenSpec.ofChange councilPassesSpec)

/-- ITS FALSE NEIGHBOUR: 'it returns false'. Refute it at one input. -/
def councilPassesWrong : ChangeSpec := { name := "councilPasses", fn := fun _ => fun
  | [d] => { results := [.lit (.bool false)], args := [d] }
  | _ => none }
def CouncilPassesWrongFalsely : Prop := councilPassesRow.holds Try.pinned (OpenSpec.ofChange councilPassesWrong)

/-- 'bolidelaw09.CouncilOrders': WHATEVER THE INPUT: true; the input reads as it did. -/
def councilOrdersSpec : ChangeSpec := { name := "councilOrders", fn := fun _ => fun
  | [d1, d2, d3] => { results := [.lit (.bool true)], args := [d1, d2, d3] }
  | _ => none }
def councilOrdersRow : OpenClaim := { program := "ytogpgnljomchcaa", sum := "45651448044221665ce19c7c3a2d9b39760729985a495e0b566f22f72a82b81b", func := "bolide/bolidelaw09.CouncilOrders", spec := "councilOrders", inPlace := ["slices.overlaps[bolide/api.Known]"], unfollowed := true, recurses := true, apart := false }
def CouncilOrdersSaid : Prop := councilOrdersRow.holds Try.pinned (OpenSpec.ofChange councilOrdersSpec)

/-- ITS FALSE NEIGHBOUR: 'it returns false'. Refute it at one input. -/
def councilOrdersWrong : ChangeSpec := { name := "councilOrders", fn := fun _ => fun
  | [d1, d2, d3] => { results := [.lit (.bool false)], args := [d1, d2, d3] }
  | _ => none }
def CouncilOrdersWrongFalsely : Prop := councilOrdersRow.holds Try.pinned (OpenSpec.ofChange councilOrdersWrong)

/-- 'bolidelaw09.CouncilExercises': WHATEVER THE INPUT: true; the input reads as it did. -/
def councilExercisesSpec : ChangeSpec := { name := "councilExercises", fn := fun _ => fun
  | [d] => { results := [.lit (.bool true)], args := [d] }
  | _ => none }
def councilExercisesRow : OpenClaim := { program := "ytogpgnljomchcaa", sum := "45651448044221665ce19c7c3a2d9b39760729985a495e0b566f22f72a82b81b", func := "bolide/bolidelaw09.CouncilExercises", spec := "councilExercises", inPlace := ["slices.overlaps[bolide/api.Known]"], unfollowed := true, recurses := true, apart := false }
def CouncilExercisesSaid : Prop := councilExercisesRow.holds Try.pinned (OpenSpec.ofChange councilExercisesSpec)

/-- ITS FALSE NEIGHBOUR: 'it returns false'. Refute it at one input. -/
def councilExercisesWrong : ChangeSpec := { name := "councilExercises", fn := fun _ => fun
  | [d] => { results := [.lit (.bool false)], args := [d] }
  | _ => none }
def CouncilExercisesWrongFalsely : Prop := councilExercisesRow.holds Try.pinned (OpenSpec.ofChange councilExercisesWrong)

/- THE SECOND FORM. 'bulk': how many values and letters a reading holds, each counted each time it is reached (what is shared counts as often as it is met; a slice's spare places count too). A statement '..UptoSaid' is the law's where the arguments, and the package variables that the reading takes, are together of bulk at most 1048576: NARROWER than '..Said'. Prove '..Said' where nothing that the law and all that it calls make is longer than what came in: it says more and counts as full. Else prove '..UptoSaid'. A law counts once. -/
mutual
def uptoBulk {H : Type} : DataW H → Nat
  | .lit (.string bytes) => bytes.length + 1
  | .lit _ => 1
  | .nil => 1
  | .ptr d => uptoBulk d + 1
  | .slice elems spare => uptoBulkAll elems + uptoBulkAll spare + 1
  | .agg parts => uptoBulkAll parts + 1
  | .iface _ d => uptoBulk d + 1
  | .map entries => uptoBulkEntries entries + 1
  | .held _ => 1
def uptoBulkAll {H : Type} : List (DataW H) → Nat
  | [] => 0
  | d :: r => uptoBulk d + uptoBulkAll r
def uptoBulkEntries {H : Type} : List (Lit × DataW H) → Nat
  | [] => 0
  | x :: r => uptoBulkEntry x + uptoBulkEntries r
def uptoBulkEntry {H : Type} : Lit × DataW H → Nat
  | (.string bytes, d) => bytes.length + uptoBulk d + 1
  | (_, d) => uptoBulk d + 1
 end
def uptoSmall : (H : Type) → List (DataW H) → Bool := fun _ ds => decide (uptoBulkAll ds ≤ 1048576)
def OpenSpec.upto (s : _root_.Go.ChangeSpec) : _root_.Go.OpenSpec := { _root_.Go.OpenSpec.ofChange s with cond := some uptoSmall }

/-- 'bolidelaw09.CouncilBuilds', WHERE WHAT IT READS IS OF BULK AT MOST 1048576: true; the input reads as it did. -/
def councilBuildsUptoRow : OpenClaim := { program := "ytogpgnljomchcaa", sum := "45651448044221665ce19c7c3a2d9b39760729985a495e0b566f22f72a82b81b", func := "bolide/bolidelaw09.CouncilBuilds", spec := "councilBuilds", inPlace := ["slices.overlaps[bolide/api.Known]"], unfollowed := true, recurses := true, apart := false, narrowed := true }
def CouncilBuildsUptoSaid : Prop := councilBuildsUptoRow.holds Try.pinned (OpenSpec.upto councilBuildsSpec)

/-- 'bolidelaw09.CouncilLevels', WHERE WHAT IT READS IS OF BULK AT MOST 1048576: true; the input reads as it did. -/
def councilLevelsUptoRow : OpenClaim := { program := "ytogpgnljomchcaa", sum := "45651448044221665ce19c7c3a2d9b39760729985a495e0b566f22f72a82b81b", func := "bolide/bolidelaw09.CouncilLevels", spec := "councilLevels", inPlace := ["slices.overlaps[bolide/api.Known]"], unfollowed := true, recurses := true, apart := false, narrowed := true }
def CouncilLevelsUptoSaid : Prop := councilLevelsUptoRow.holds Try.pinned (OpenSpec.upto councilLevelsSpec)

/-- 'bolidelaw09.CouncilChecks', WHERE WHAT IT READS IS OF BULK AT MOST 1048576: true; the input reads as it did. -/
def councilChecksUptoRow : OpenClaim := { program := "ytogpgnljomchcaa", sum := "45651448044221665ce19c7c3a2d9b39760729985a495e0b566f22f72a82b81b", func := "bolide/bolidelaw09.CouncilChecks", spec := "councilChecks", inPlace := ["slices.overlaps[bolide/api.Known]"], unfollowed := true, recurses := true, apart := false, narrowed := true }
def CouncilChecksUptoSaid : Prop := councilChecksUptoRow.holds Try.pinned (OpenSpec.upto councilChecksSpec)

/-- 'bolidelaw09.CouncilSent', WHERE WHAT IT READS IS OF BULK AT MOST 1048576: true; the input reads as it did. -/
def councilSentUptoRow : OpenClaim := { program := "ytogpgnljomchcaa", sum := "45651448044221665ce19c7c3a2d9b39760729985a495e0b566f22f72a82b81b", func := "bolide/bolidelaw09.CouncilSent", spec := "councilSent", inPlace := ["slices.overlaps[bolide/api.Known]"], unfollowed := true, recurses := true, apart := false, narrowed := true }
def CouncilSentUptoSaid : Prop := councilSentUptoRow.holds Try.pinned (OpenSpec.upto councilSentSpec)

/-- 'bolidelaw09.CouncilOpen', WHERE WHAT IT READS IS OF BULK AT MOST 1048576: true; the input reads as it did. -/
def councilOpenUptoRow : OpenClaim := { program := "ytogpgnljomchcaa", sum := "45651448044221665ce19c7c3a2d9b39760729985a495e0b566f22f72a82b81b", func := "bolide/bolidelaw09.CouncilOpen", spec := "councilOpen", inPlace := ["slices.overlaps[bolide/api.Known]"], unfollowed := true, recurses := true, apart := false, narrowed := true }
def CouncilOpenUptoSaid : Prop := councilOpenUptoRow.holds Try.pinned (OpenSpec.upto councilOpenSpec)

/-- 'bolidelaw09.CouncilKnown', WHERE WHAT IT READS IS OF BULK AT MOST 1048576: true; the input reads as it did. -/
def councilKnownUptoRow : OpenClaim := { program := "ytogpgnljomchcaa", sum := "45651448044221665ce19c7c3a2d9b39760729985a495e0b566f22f72a82b81b", func := "bolide/bolidelaw09.CouncilKnown", spec := "councilKnown", inPlace := ["slices.overlaps[bolide/api.Known]"], unfollowed := true, recurses := true, apart := false, narrowed := true }
def CouncilKnownUptoSaid : Prop := councilKnownUptoRow.holds Try.pinned (OpenSpec.upto councilKnownSpec)

/-- 'bolidelaw09.CouncilPasses', WHERE WHAT IT READS IS OF BULK AT MOST 1048576: true; the input reads as it did. -/
def councilPassesUptoRow : OpenClaim := { program := "ytogpgnljomchcaa", sum := "45651448044221665ce19c7c3a2d9b39760729985a495e0b566f22f72a82b81b", func := "bolide/bolidelaw09.CouncilPasses", spec := "councilPasses", inPlace := ["slices.overlaps[bolide/api.Known]"], unfollowed := true, recurses := true, apart := false, narrowed := true }
def CouncilPassesUptoSaid : Prop := councilPassesUptoRow.holds Try.pinned (OpenSpec.upto councilPassesSpec)

/-- 'bolidelaw09.CouncilOrders', WHERE WHAT IT READS IS OF BULK AT MOST 1048576: true; the input reads as it did. -/
def councilOrdersUptoRow : OpenClaim := { program := "ytogpgnljomchcaa", sum := "45651448044221665ce19c7c3a2d9b39760729985a495e0b566f22f72a82b81b", func := "bolide/bolidelaw09.CouncilOrders", spec := "councilOrders", inPlace := ["slices.overlaps[bolide/api.Known]"], unfollowed := true, recurses := true, apart := false, narrowed := true }
def CouncilOrdersUptoSaid : Prop := councilOrdersUptoRow.holds Try.pinned (OpenSpec.upto councilOrdersSpec)

/-- 'bolidelaw09.CouncilExercises', WHERE WHAT IT READS IS OF BULK AT MOST 1048576: true; the input reads as it did. -/
def councilExercisesUptoRow : OpenClaim := { program := "ytogpgnljomchcaa", sum := "45651448044221665ce19c7c3a2d9b39760729985a495e0b566f22f72a82b81b", func := "bolide/bolidelaw09.CouncilExercises", spec := "councilExercises", inPlace := ["slices.overlaps[bolide/api.Known]"], unfollowed := true, recurses := true, apart := false, narrowed := true }
def CouncilExercisesUptoSaid : Prop := councilExercisesUptoRow.holds Try.pinned (OpenSpec.upto councilExercisesSpec)

end Rows
end Go.Proofs.Ytogpgnljomchcaa
