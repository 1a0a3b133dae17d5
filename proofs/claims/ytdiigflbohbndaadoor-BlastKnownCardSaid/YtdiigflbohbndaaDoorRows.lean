/-
  NARROWER THAN 'FOR EVERY INPUT', by the rows' own cells (each row's printed sentence says how): BlastOrders: laid · BlastHolds: laid · BlastReaches: laid · BlastChecks: laid · BlastLands: laid · BlastFalls: laid · BlastSole: laid · BlastHarms: laid · BlastInside: laid · BlastTolls: laid · BlastWorst: laid · BlastEncloses: laid · BlastKnown: laid.
  DERIVED. THE GIVEN ROWS OF THIS SEAT. 13 by the template 'for every input the law returns true; each argument reads behind the call as it read before'; 0 by the template 'total and deterministic' (their statements: YtdiigflbohbndaaDoorTotals.lean).
  GIVEN WITH THE SEED: the statements are not yours to turn. If you find one false, say at which input.
  Laid BY PROGRAM, IN A SANDBOX (cutbox-rows.mjs): the forced cells as the released guide's own fill.sh prints them over the translation 08dd551f4fecd7ec… (all of the seat's roots in one cut). By AI agents, Wed Nov 11 2026. No macro, syntax, notation, axiom, sorry.
-/
import Derived.Test.YtdiigflbohbndaaDoorChecked
import GoSem.Claim
import GoSem.ClaimJoined
import GoSem.ClaimMapViews
import Derived.JoinedTies
import Derived.KernelRfl
namespace Go.Proofs.YtdiigflbohbndaaDoor
/- THE CELL 'sum', in the pinned program and in every row, IS THE sha256 OF THE DUMP (.gsa) THAT YtdiigflbohbndaaDoorProg.lean LOADS. Nothing in Lean hashes anything: it is a label: what it is worth is what the hold of that sum in a sandbox is worth. -/
noncomputable def Tryd.pinned : Pinned := { name := "ytdiigflbohbndaadoor", sum := "08dd551f4fecd7ec62d4ff7737efe88371cb94ee5df27069f83bc23d86097bec", checked := Tryd.checked }
namespace Rows
def none {H : Type} : Left H := { results := [], args := [] }

/- WHAT THE LISTED PACKAGE-LEVEL VARIABLES READ AS WHEN THE CALL BEGINS. Each datum BY PROGRAM (the guide's laid-datum.mjs) off the statement by which the dump's own 'gosem.cut.vars' lays the variable. In a bare row this is a premise. The card (YtdiigflbohbndaaDoorCards.lean) ties it to the program's text. -/
def laid_bolide_blast_bounds {H : Type} : DataW H := .agg [.agg [.lit (.int .i64 1), .lit (.int .i64 1000)], .agg [.lit (.int .i64 1), .lit (.int .i64 9000)], .agg [.lit (.int .i64 0), .lit (.int .i64 1099511627776)], .agg [.lit (.int .i64 0), .lit (.int .i64 1000)], .agg [.lit (.int .i64 500), .lit (.int .i64 2000)], .agg [.lit (.int .i64 1), .lit (.int .i64 8000)], .agg [.lit (.int .i64 1), .lit (.int .i64 1000)]]

/-- 'bolidelaw07.BlastOrders': WHATEVER THE INPUT: true; the input reads as it did. -/
def blastOrdersSpec : ChangeSpec := { name := "blastOrders", fn := fun _ => fun
  | [d1, d2, d3, d4] => { results := [.lit (.bool true)], args := [d1, d2, d3, d4] }
  | _ => none }
def blastOrdersRow : OpenClaim := { program := "ytdiigflbohbndaadoor", sum := "08dd551f4fecd7ec62d4ff7737efe88371cb94ee5df27069f83bc23d86097bec", func := "bolide/bolidelaw07.BlastOrders", spec := "blastOrders", unfollowed := true, recurses := true, named := ["bolide/blast.bounds", "math/bits.divideError", "math/bits.overflowError"], apart := false, laid := [("bolide/blast.bounds", laid_bolide_blast_bounds)] }
def BlastOrdersSaid : Prop := blastOrdersRow.holds Tryd.pinned (OpenSpec.ofChange blastOrdersSpec)

/-- ITS FALSE NEIGHBOUR: 'it returns false'. Refute it at one input. -/
def blastOrdersWrong : ChangeSpec := { name := "blastOrders", fn := fun _ => fun
  | [d1, d2, d3, d4] => { results := [.lit (.bool false)], args := [d1, d2, d3, d4] }
  | _ => none }
def BlastOrdersWrongFalsely : Prop := blastOrdersRow.holds Tryd.pinned (OpenSpec.ofChange blastOrdersWrong)

/-- 'bolidelaw07.BlastHolds': WHATEVER THE INPUT: true; the input reads as it did. -/
def blastHoldsSpec : ChangeSpec := { name := "blastHolds", fn := fun _ => fun
  | [d1, d2] => { results := [.lit (.bool true)], args := [d1, d2] }
  | _ => none }
def blastHoldsRow : OpenClaim := { program := "ytdiigflbohbndaadoor", sum := "08dd551f4fecd7ec62d4ff7737efe88371cb94ee5df27069f83bc23d86097bec", func := "bolide/bolidelaw07.BlastHolds", spec := "blastHolds", unfollowed := true, recurses := true, named := ["bolide/blast.bounds", "math/bits.divideError", "math/bits.overflowError"], apart := false, laid := [("bolide/blast.bounds", laid_bolide_blast_bounds)] }
def BlastHoldsSaid : Prop := blastHoldsRow.holds Tryd.pinned (OpenSpec.ofChange blastHoldsSpec)

/-- ITS FALSE NEIGHBOUR: 'it returns false'. Refute it at one input. -/
def blastHoldsWrong : ChangeSpec := { name := "blastHolds", fn := fun _ => fun
  | [d1, d2] => { results := [.lit (.bool false)], args := [d1, d2] }
  | _ => none }
def BlastHoldsWrongFalsely : Prop := blastHoldsRow.holds Tryd.pinned (OpenSpec.ofChange blastHoldsWrong)

/-- 'bolidelaw07.BlastReaches': WHATEVER THE INPUT: true; the input reads as it did. -/
def blastReachesSpec : ChangeSpec := { name := "blastReaches", fn := fun _ => fun
  | [d1, d2, d3, d4, d5] => { results := [.lit (.bool true)], args := [d1, d2, d3, d4, d5] }
  | _ => none }
def blastReachesRow : OpenClaim := { program := "ytdiigflbohbndaadoor", sum := "08dd551f4fecd7ec62d4ff7737efe88371cb94ee5df27069f83bc23d86097bec", func := "bolide/bolidelaw07.BlastReaches", spec := "blastReaches", unfollowed := true, recurses := true, named := ["bolide/blast.bounds", "math/bits.divideError", "math/bits.overflowError"], apart := false, laid := [("bolide/blast.bounds", laid_bolide_blast_bounds)] }
def BlastReachesSaid : Prop := blastReachesRow.holds Tryd.pinned (OpenSpec.ofChange blastReachesSpec)

/-- ITS FALSE NEIGHBOUR: 'it returns false'. Refute it at one input. -/
def blastReachesWrong : ChangeSpec := { name := "blastReaches", fn := fun _ => fun
  | [d1, d2, d3, d4, d5] => { results := [.lit (.bool false)], args := [d1, d2, d3, d4, d5] }
  | _ => none }
def BlastReachesWrongFalsely : Prop := blastReachesRow.holds Tryd.pinned (OpenSpec.ofChange blastReachesWrong)

/-- 'bolidelaw07.BlastChecks': WHATEVER THE INPUT: true; the input reads as it did. -/
def blastChecksSpec : ChangeSpec := { name := "blastChecks", fn := fun _ => fun
  | [d1, d2, d3, d4, d5] => { results := [.lit (.bool true)], args := [d1, d2, d3, d4, d5] }
  | _ => none }
def blastChecksRow : OpenClaim := { program := "ytdiigflbohbndaadoor", sum := "08dd551f4fecd7ec62d4ff7737efe88371cb94ee5df27069f83bc23d86097bec", func := "bolide/bolidelaw07.BlastChecks", spec := "blastChecks", unfollowed := true, recurses := true, named := ["bolide/blast.bounds", "math/bits.divideError", "math/bits.overflowError"], apart := false, laid := [("bolide/blast.bounds", laid_bolide_blast_bounds)] }
def BlastChecksSaid : Prop := blastChecksRow.holds Tryd.pinned (OpenSpec.ofChange blastChecksSpec)

/-- ITS FALSE NEIGHBOUR: 'it returns false'. Refute it at one input. -/
def blastChecksWrong : ChangeSpec := { name := "blastChecks", fn := fun _ => fun
  | [d1, d2, d3, d4, d5] => { results := [.lit (.bool false)], args := [d1, d2, d3, d4, d5] }
  | _ => none }
def BlastChecksWrongFalsely : Prop := blastChecksRow.holds Tryd.pinned (OpenSpec.ofChange blastChecksWrong)

/-- 'bolidelaw07.BlastLands': WHATEVER THE INPUT: true; the input reads as it did. -/
def blastLandsSpec : ChangeSpec := { name := "blastLands", fn := fun _ => fun
  | [d1, d2, d3, d4, d5, d6] => { results := [.lit (.bool true)], args := [d1, d2, d3, d4, d5, d6] }
  | _ => none }
def blastLandsRow : OpenClaim := { program := "ytdiigflbohbndaadoor", sum := "08dd551f4fecd7ec62d4ff7737efe88371cb94ee5df27069f83bc23d86097bec", func := "bolide/bolidelaw07.BlastLands", spec := "blastLands", unfollowed := true, recurses := true, named := ["bolide/blast.bounds", "math/bits.divideError", "math/bits.overflowError"], apart := false, laid := [("bolide/blast.bounds", laid_bolide_blast_bounds)] }
def BlastLandsSaid : Prop := blastLandsRow.holds Tryd.pinned (OpenSpec.ofChange blastLandsSpec)

/-- ITS FALSE NEIGHBOUR: 'it returns false'. Refute it at one input. -/
def blastLandsWrong : ChangeSpec := { name := "blastLands", fn := fun _ => fun
  | [d1, d2, d3, d4, d5, d6] => { results := [.lit (.bool false)], args := [d1, d2, d3, d4, d5, d6] }
  | _ => none }
def BlastLandsWrongFalsely : Prop := blastLandsRow.holds Tryd.pinned (OpenSpec.ofChange blastLandsWrong)

/-- 'bolidelaw07.BlastFalls': WHATEVER THE INPUT: true; the input reads as it did. -/
def blastFallsSpec : ChangeSpec := { name := "blastFalls", fn := fun _ => fun
  | [d1, d2, d3, d4, d5] => { results := [.lit (.bool true)], args := [d1, d2, d3, d4, d5] }
  | _ => none }
def blastFallsRow : OpenClaim := { program := "ytdiigflbohbndaadoor", sum := "08dd551f4fecd7ec62d4ff7737efe88371cb94ee5df27069f83bc23d86097bec", func := "bolide/bolidelaw07.BlastFalls", spec := "blastFalls", unfollowed := true, recurses := true, named := ["bolide/blast.bounds", "math/bits.divideError", "math/bits.overflowError"], apart := false, laid := [("bolide/blast.bounds", laid_bolide_blast_bounds)] }
def BlastFallsSaid : Prop := blastFallsRow.holds Tryd.pinned (OpenSpec.ofChange blastFallsSpec)

/-- ITS FALSE NEIGHBOUR: 'it returns false'. Refute it at one input. -/
def blastFallsWrong : ChangeSpec := { name := "blastFalls", fn := fun _ => fun
  | [d1, d2, d3, d4, d5] => { results := [.lit (.bool false)], args := [d1, d2, d3, d4, d5] }
  | _ => none }
def BlastFallsWrongFalsely : Prop := blastFallsRow.holds Tryd.pinned (OpenSpec.ofChange blastFallsWrong)

/-- 'bolidelaw07.BlastSole': WHATEVER THE INPUT: true; the input reads as it did. -/
def blastSoleSpec : ChangeSpec := { name := "blastSole", fn := fun _ => fun
  | [d] => { results := [.lit (.bool true)], args := [d] }
  | _ => none }
def blastSoleRow : OpenClaim := { program := "ytdiigflbohbndaadoor", sum := "08dd551f4fecd7ec62d4ff7737efe88371cb94ee5df27069f83bc23d86097bec", func := "bolide/bolidelaw07.BlastSole", spec := "blastSole", unfollowed := true, recurses := true, named := ["bolide/blast.bounds", "math/bits.divideError", "math/bits.overflowError"], apart := false, laid := [("bolide/blast.bounds", laid_bolide_blast_bounds)] }
def BlastSoleSaid : Prop := blastSoleRow.holds Tryd.pinned (OpenSpec.ofChange blastSoleSpec)

/-- ITS FALSE NEIGHBOUR: 'it returns false'. Refute it at one input. -/
def blastSoleWrong : ChangeSpec := { name := "blastSole", fn := fun _ => fun
  | [d] => { results := [.lit (.bool false)], args := [d] }
  | _ => none }
def BlastSoleWrongFalsely : Prop := blastSoleRow.holds Tryd.pinned (OpenSpec.ofChange blastSoleWrong)

/-- 'bolidelaw07.BlastHarms': WHATEVER THE INPUT: true; the input reads as it did. -/
def blastHarmsSpec : ChangeSpec := { name := "blastHarms", fn := fun _ => fun
  | [d1, d2, d3, d4, d5, d6, d7] => { results := [.lit (.bool true)], args := [d1, d2, d3, d4, d5, d6, d7] }
  | _ => none }
def blastHarmsRow : OpenClaim := { program := "ytdiigflbohbndaadoor", sum := "08dd551f4fecd7ec62d4ff7737efe88371cb94ee5df27069f83bc23d86097bec", func := "bolide/bolidelaw07.BlastHarms", spec := "blastHarms", unfollowed := true, recurses := true, named := ["bolide/blast.bounds", "math/bits.divideError", "math/bits.overflowError"], apart := false, laid := [("bolide/blast.bounds", laid_bolide_blast_bounds)] }
def BlastHarmsSaid : Prop := blastHarmsRow.holds Tryd.pinned (OpenSpec.ofChange blastHarmsSpec)

/-- ITS FALSE NEIGHBOUR: 'it returns false'. Refute it at one input. -/
def blastHarmsWrong : ChangeSpec := { name := "blastHarms", fn := fun _ => fun
  | [d1, d2, d3, d4, d5, d6, d7] => { results := [.lit (.bool false)], args := [d1, d2, d3, d4, d5, d6, d7] }
  | _ => none }
def BlastHarmsWrongFalsely : Prop := blastHarmsRow.holds Tryd.pinned (OpenSpec.ofChange blastHarmsWrong)

/-- 'bolidelaw07.BlastInside': WHATEVER THE INPUT: true; the input reads as it did. -/
def blastInsideSpec : ChangeSpec := { name := "blastInside", fn := fun _ => fun
  | [d] => { results := [.lit (.bool true)], args := [d] }
  | _ => none }
def blastInsideRow : OpenClaim := { program := "ytdiigflbohbndaadoor", sum := "08dd551f4fecd7ec62d4ff7737efe88371cb94ee5df27069f83bc23d86097bec", func := "bolide/bolidelaw07.BlastInside", spec := "blastInside", unfollowed := true, recurses := true, named := ["bolide/blast.bounds", "math/bits.divideError", "math/bits.overflowError"], apart := false, laid := [("bolide/blast.bounds", laid_bolide_blast_bounds)] }
def BlastInsideSaid : Prop := blastInsideRow.holds Tryd.pinned (OpenSpec.ofChange blastInsideSpec)

/-- ITS FALSE NEIGHBOUR: 'it returns false'. Refute it at one input. -/
def blastInsideWrong : ChangeSpec := { name := "blastInside", fn := fun _ => fun
  | [d] => { results := [.lit (.bool false)], args := [d] }
  | _ => none }
def BlastInsideWrongFalsely : Prop := blastInsideRow.holds Tryd.pinned (OpenSpec.ofChange blastInsideWrong)

/-- 'bolidelaw07.BlastTolls': WHATEVER THE INPUT: true; the input reads as it did. -/
def blastTollsSpec : ChangeSpec := { name := "blastTolls", fn := fun _ => fun
  | [d1, d2, d3, d4, d5, d6, d7, d8] => { results := [.lit (.bool true)], args := [d1, d2, d3, d4, d5, d6, d7, d8] }
  | _ => none }
def blastTollsRow : OpenClaim := { program := "ytdiigflbohbndaadoor", sum := "08dd551f4fecd7ec62d4ff7737efe88371cb94ee5df27069f83bc23d86097bec", func := "bolide/bolidelaw07.BlastTolls", spec := "blastTolls", unfollowed := true, recurses := true, named := ["bolide/blast.bounds", "math/bits.divideError", "math/bits.overflowError"], apart := false, laid := [("bolide/blast.bounds", laid_bolide_blast_bounds)] }
def BlastTollsSaid : Prop := blastTollsRow.holds Tryd.pinned (OpenSpec.ofChange blastTollsSpec)

/-- ITS FALSE NEIGHBOUR: 'it returns false'. Refute it at one input. -/
def blastTollsWrong : ChangeSpec := { name := "blastTolls", fn := fun _ => fun
  | [d1, d2, d3, d4, d5, d6, d7, d8] => { results := [.lit (.bool false)], args := [d1, d2, d3, d4, d5, d6, d7, d8] }
  | _ => none }
def BlastTollsWrongFalsely : Prop := blastTollsRow.holds Tryd.pinned (OpenSpec.ofChange blastTollsWrong)

/-- 'bolidelaw07.BlastWorst': WHATEVER THE INPUT: true; the input reads as it did. -/
def blastWorstSpec : ChangeSpec := { name := "blastWorst", fn := fun _ => fun
  | [d] => { results := [.lit (.bool true)], args := [d] }
  | _ => none }
def blastWorstRow : OpenClaim := { program := "ytdiigflbohbndaadoor", sum := "08dd551f4fecd7ec62d4ff7737efe88371cb94ee5df27069f83bc23d86097bec", func := "bolide/bolidelaw07.BlastWorst", spec := "blastWorst", unfollowed := true, recurses := true, named := ["bolide/blast.bounds", "math/bits.divideError", "math/bits.overflowError"], apart := false, laid := [("bolide/blast.bounds", laid_bolide_blast_bounds)] }
def BlastWorstSaid : Prop := blastWorstRow.holds Tryd.pinned (OpenSpec.ofChange blastWorstSpec)

/-- ITS FALSE NEIGHBOUR: 'it returns false'. Refute it at one input. -/
def blastWorstWrong : ChangeSpec := { name := "blastWorst", fn := fun _ => fun
  | [d] => { results := [.lit (.bool false)], args := [d] }
  | _ => none }
def BlastWorstWrongFalsely : Prop := blastWorstRow.holds Tryd.pinned (OpenSpec.ofChange blastWorstWrong)

/-- 'bolidelaw07.BlastEncloses': WHATEVER THE INPUT: true; the input reads as it did. -/
def blastEnclosesSpec : ChangeSpec := { name := "blastEncloses", fn := fun _ => fun
  | [d] => { results := [.lit (.bool true)], args := [d] }
  | _ => none }
def blastEnclosesRow : OpenClaim := { program := "ytdiigflbohbndaadoor", sum := "08dd551f4fecd7ec62d4ff7737efe88371cb94ee5df27069f83bc23d86097bec", func := "bolide/bolidelaw07.BlastEncloses", spec := "blastEncloses", unfollowed := true, recurses := true, named := ["bolide/blast.bounds", "math/bits.divideError", "math/bits.overflowError"], apart := false, laid := [("bolide/blast.bounds", laid_bolide_blast_bounds)] }
def BlastEnclosesSaid : Prop := blastEnclosesRow.holds Tryd.pinned (OpenSpec.ofChange blastEnclosesSpec)

/-- ITS FALSE NEIGHBOUR: 'it returns false'. Refute it at one input. -/
def blastEnclosesWrong : ChangeSpec := { name := "blastEncloses", fn := fun _ => fun
  | [d] => { results := [.lit (.bool false)], args := [d] }
  | _ => none }
def BlastEnclosesWrongFalsely : Prop := blastEnclosesRow.holds Tryd.pinned (OpenSpec.ofChange blastEnclosesWrong)

/-- 'bolidelaw07.BlastKnown': WHATEVER THE INPUT: true; the input reads as it did. -/
def blastKnownSpec : ChangeSpec := { name := "blastKnown", fn := fun _ => fun
  | [] => { results := [.lit (.bool true)], args := [] }
  | _ => none }
def blastKnownRow : OpenClaim := { program := "ytdiigflbohbndaadoor", sum := "08dd551f4fecd7ec62d4ff7737efe88371cb94ee5df27069f83bc23d86097bec", func := "bolide/bolidelaw07.BlastKnown", spec := "blastKnown", unfollowed := true, recurses := true, named := ["bolide/blast.bounds", "math/bits.divideError", "math/bits.overflowError"], apart := false, laid := [("bolide/blast.bounds", laid_bolide_blast_bounds)] }
def BlastKnownSaid : Prop := blastKnownRow.holds Tryd.pinned (OpenSpec.ofChange blastKnownSpec)

/-- ITS FALSE NEIGHBOUR: 'it returns false'. Refute it at one input. -/
def blastKnownWrong : ChangeSpec := { name := "blastKnown", fn := fun _ => fun
  | [] => { results := [.lit (.bool false)], args := [] }
  | _ => none }
def BlastKnownWrongFalsely : Prop := blastKnownRow.holds Tryd.pinned (OpenSpec.ofChange blastKnownWrong)

/- THE SECOND FORM. 'bulk': how many values and letters a reading holds, each counted each time it is reached (what is shared counts as often as it is met; a slice's spare places count too). A statement '..UptoSaid' is the law's where the arguments, and the package variables that the reading takes, are together of bulk at most 1048576: NARROWER than '..Said'. Prove '..Said' where nothing that the law and all that it calls make is longer than what came in: it says more and counts as full. Else prove '..UptoSaid'. A law counts once. -/
mutual
def uptoBulk {H : Type} : DataW H → Nat
  | .lit (.string bytes) => bytes.length + 1
  | .lit _ => 1
  | .nil => 1
  | .ptr d => uptoBulk d + 1
  | .slice elems spare => uptoBulkAll elems + uptoBulkAll spare + 1
  | .agg parts => uptoBulkAll parts + 1
  | .iface _ d => uptoBulk d + 1
  | .map entries => uptoBulkEntries entries + 1
  | .held _ => 1
def uptoBulkAll {H : Type} : List (DataW H) → Nat
  | [] => 0
  | d :: r => uptoBulk d + uptoBulkAll r
def uptoBulkEntries {H : Type} : List (Lit × DataW H) → Nat
  | [] => 0
  | x :: r => uptoBulkEntry x + uptoBulkEntries r
def uptoBulkEntry {H : Type} : Lit × DataW H → Nat
  | (.string bytes, d) => bytes.length + uptoBulk d + 1
  | (_, d) => uptoBulk d + 1
 end
def uptoSmall : (H : Type) → List (DataW H) → Bool := fun _ ds => decide (uptoBulkAll ds ≤ 1048576)
def OpenSpec.upto (s : _root_.Go.ChangeSpec) : _root_.Go.OpenSpec := { _root_.Go.OpenSpec.ofChange s with cond := some uptoSmall }

/-- 'bolidelaw07.BlastOrders', WHERE WHAT IT READS IS OF BULK AT MOST 1048576: true; the input reads as it did. -/
def blastOrdersUptoRow : OpenClaim := { program := "ytdiigflbohbndaadoor", sum := "08dd551f4fecd7ec62d4ff7737efe88371cb94ee5df27069f83bc23d86097bec", func := "bolide/bolidelaw07.BlastOrders", spec := "blastOrders", unfollowed := true, recurses := true, named := ["bolide/blast.bounds", "math/bits.divideError", "math/bits.overflowError"], apart := false, laid := [("bolide/blast.bounds", laid_bolide_blast_bounds)], narrowed := true }
def BlastOrdersUptoSaid : Prop := blastOrdersUptoRow.holds Tryd.pinned (OpenSpec.upto blastOrdersSpec)

/-- 'bolidelaw07.BlastHolds', WHERE WHAT IT READS IS OF BULK AT MOST 1048576: true; the input reads as it did. -/
def blastHoldsUptoRow : OpenClaim := { program := "ytdiigflbohbndaadoor", sum := "08dd551f4fecd7ec62d4ff7737efe88371cb94ee5df27069f83bc23d86097bec", func := "bolide/bolidelaw07.BlastHolds", spec := "blastHolds", unfollowed := true, recurses := true, named := ["bolide/blast.bounds", "math/bits.divideError", "math/bits.overflowError"], apart := false, laid := [("bolide/blast.bounds", laid_bolide_blast_bounds)], narrowed := true }
def BlastHoldsUptoSaid : Prop := blastHoldsUptoRow.holds Tryd.pinned (OpenSpec.upto blastHoldsSpec)

/-- 'bolidelaw07.BlastReaches', WHERE WHAT IT READS IS OF BULK AT MOST 1048576: true; the input reads as it did. -/
def blastReachesUptoRow : OpenClaim := { program := "ytdiigflbohbndaadoor", sum := "08dd551f4fecd7ec62d4ff7737efe88371cb94ee5df27069f83bc23d86097bec", func := "bolide/bolidelaw07.BlastReaches", spec := "blastReaches", unfollowed := true, recurses := true, named := ["bolide/blast.bounds", "math/bits.divideError", "math/bits.overflowError"], apart := false, laid := [("bolide/blast.bounds", laid_bolide_blast_bounds)], narrowed := true }
def BlastReachesUptoSaid : Prop := blastReachesUptoRow.holds Tryd.pinned (OpenSpec.upto blastReachesSpec)

/-- 'bolidelaw07.BlastChecks', WHERE WHAT IT READS IS OF BULK AT MOST 1048576: true; the input reads as it did. -/
def blastChecksUptoRow : OpenClaim := { program := "ytdiigflbohbndaadoor", sum := "08dd551f4fecd7ec62d4ff7737efe88371cb94ee5df27069f83bc23d86097bec", func := "bolide/bolidelaw07.BlastChecks", spec := "blastChecks", unfollowed := true, recurses := true, named := ["bolide/blast.bounds", "math/bits.divideError", "math/bits.overflowError"], apart := false, laid := [("bolide/blast.bounds", laid_bolide_blast_bounds)], narrowed := true }
def BlastChecksUptoSaid : Prop := blastChecksUptoRow.holds Tryd.pinned (OpenSpec.upto blastChecksSpec)

/-- 'bolidelaw07.BlastLands', WHERE WHAT IT READS IS OF BULK AT MOST 1048576: true; the input reads as it did. -/
def blastLandsUptoRow : OpenClaim := { program := "ytdiigflbohbndaadoor", sum := "08dd551f4fecd7ec62d4ff7737efe88371cb94ee5df27069f83bc23d86097bec", func := "bolide/bolidelaw07.BlastLands", spec := "blastLands", unfollowed := true, recurses := true, named := ["bolide/blast.bounds", "math/bits.divideError", "math/bits.overflowError"], apart := false, laid := [("bolide/blast.bounds", laid_bolide_blast_bounds)], narrowed := true }
def BlastLandsUptoSaid : Prop := blastLandsUptoRow.holds Tryd.pinned (OpenSpec.upto blastLandsSpec)

/-- 'bolidelaw07.BlastFalls', WHERE WHAT IT READS IS OF BULK AT MOST 1048576: true; the input reads as it did. -/
def blastFallsUptoRow : OpenClaim := { program := "ytdiigflbohbndaadoor", sum := "08dd551f4fecd7ec62d4ff7737efe88371cb94ee5df27069f83bc23d86097bec", func := "bolide/bolidelaw07.BlastFalls", spec := "blastFalls", unfollowed := true, recurses := true, named := ["bolide/blast.bounds", "math/bits.divideError", "math/bits.overflowError"], apart := false, laid := [("bolide/blast.bounds", laid_bolide_blast_bounds)], narrowed := true }
def BlastFallsUptoSaid : Prop := blastFallsUptoRow.holds Tryd.pinned (OpenSpec.upto blastFallsSpec)

/-- 'bolidelaw07.BlastSole', WHERE WHAT IT READS IS OF BULK AT MOST 1048576: true; the input reads as it did. -/
def blastSoleUptoRow : OpenClaim := { program := "ytdiigflbohbndaadoor", sum := "08dd551f4fecd7ec62d4ff7737efe88371cb94ee5df27069f83bc23d86097bec", func := "bolide/bolidelaw07.BlastSole", spec := "blastSole", unfollowed := true, recurses := true, named := ["bolide/blast.bounds", "math/bits.divideError", "math/bits.overflowError"], apart := false, laid := [("bolide/blast.bounds", laid_bolide_blast_bounds)], narrowed := true }
def BlastSoleUptoSaid : Prop := blastSoleUptoRow.holds Tryd.pinned (OpenSpec.upto blastSoleSpec)

/-- 'bolidelaw07.BlastHarms', WHERE WHAT IT READS IS OF BULK AT MOST 1048576: true; the input reads as it did. -/
def blastHarmsUptoRow : OpenClaim := { program := "ytdiigflbohbndaadoor", sum := "08dd551f4fecd7ec62d4ff7737efe88371cb94ee5df27069f83bc23d86097bec", func := "bolide/bolidelaw07.BlastHarms", spec := "blastHarms", unfollowed := true, recurses := true, named := ["bolide/blast.bounds", "math/bits.divideError", "math/bits.overflowError"], apart := false, laid := [("bolide/blast.bounds", laid_bolide_blast_bounds)], narrowed := true }
def BlastHarmsUptoSaid : Prop := blastHarmsUptoRow.holds Tryd.pinned (OpenSpec.upto blastHarmsSpec)

/-- 'bolidelaw07.BlastInside', WHERE WHAT IT READS IS OF BULK AT MOST 1048576: true; the input reads as it did. -/
def blastInsideUptoRow : OpenClaim := { program := "ytdiigflbohbndaadoor", sum := "08dd551f4fecd7ec62d4ff7737efe88371cb94ee5df27069f83bc23d86097bec", func := "bolide/bolidelaw07.BlastInside", spec := "blastInside", unfollowed := true, recurses := true, named := ["bolide/blast.bounds", "math/bits.divideError", "math/bits.overflowError"], apart := false, laid := [("bolide/blast.bounds", laid_bolide_blast_bounds)], narrowed := true }
def BlastInsideUptoSaid : Prop := blastInsideUptoRow.holds Tryd.pinned (OpenSpec.upto blastInsideSpec)

/-- 'bolidelaw07.BlastTolls', WHERE WHAT IT READS IS OF BULK AT MOST 1048576: true; the input reads as it did. -/
def blastTollsUptoRow : OpenClaim := { program := "ytdiigflbohbndaadoor", sum := "08dd551f4fecd7ec62d4ff7737efe88371cb94ee5df27069f83bc23d86097bec", func := "bolide/bolidelaw07.BlastTolls", spec := "blastTolls", unfollowed := true, recurses := true, named := ["bolide/blast.bounds", "math/bits.divideError", "math/bits.overflowError"], apart := false, laid := [("bolide/blast.bounds", laid_bolide_blast_bounds)], narrowed := true }
def BlastTollsUptoSaid : Prop := blastTollsUptoRow.holds Tryd.pinned (OpenSpec.upto blastTollsSpec)

/-- 'bolidelaw07.BlastWorst', WHERE WHAT IT READS IS OF BULK AT MOST 1048576: true; the input reads as it did. -/
def blastWorstUptoRow : OpenClaim := { program := "ytdiigflbohbndaadoor", sum := "08dd551f4fecd7ec62d4ff7737efe88371cb94ee5df27069f83bc23d86097bec", func := "bolide/bolidelaw07.BlastWorst", spec := "blastWorst", unfollowed := true, recurses := true, named := ["bolide/blast.bounds", "math/bits.divideError", "math/bits.overflowError"], apart := false, laid := [("bolide/blast.bounds", laid_bolide_blast_bounds)], narrowed := true }
def BlastWorstUptoSaid : Prop := blastWorstUptoRow.holds Tryd.pinned (OpenSpec.upto blastWorstSpec)

/-- 'bolidelaw07.BlastEncloses', WHERE WHAT IT READS IS OF BULK AT MOST 1048576: true; the input reads as it did. -/
def blastEnclosesUptoRow : OpenClaim := { program := "ytdiigflbohbndaadoor", sum := "08dd551f4fecd7ec62d4ff7737efe88371cb94ee5df27069f83bc23d86097bec", func := "bolide/bolidelaw07.BlastEncloses", spec := "blastEncloses", unfollowed := true, recurses := true, named := ["bolide/blast.bounds", "math/bits.divideError", "math/bits.overflowError"], apart := false, laid := [("bolide/blast.bounds", laid_bolide_blast_bounds)], narrowed := true }
def BlastEnclosesUptoSaid : Prop := blastEnclosesUptoRow.holds Tryd.pinned (OpenSpec.upto blastEnclosesSpec)

/-- 'bolidelaw07.BlastKnown', WHERE WHAT IT READS IS OF BULK AT MOST 1048576: true; the input reads as it did. -/
def blastKnownUptoRow : OpenClaim := { program := "ytdiigflbohbndaadoor", sum := "08dd551f4fecd7ec62d4ff7737efe88371cb94ee5df27069f83bc23d86097bec", func := "bolide/bolidelaw07.BlastKnown", spec := "blastKnown", unfollowed := true, recurses := true, named := ["bolide/blast.bounds", "math/bits.divideError", "math/bits.overflowError"], apart := false, laid := [("bolide/blast.bounds", laid_bolide_blast_bounds)], narrowed := true }
def BlastKnownUptoSaid : Prop := blastKnownUptoRow.holds Tryd.pinned (OpenSpec.upto blastKnownSpec)

end Rows
end Go.Proofs.YtdiigflbohbndaaDoor
