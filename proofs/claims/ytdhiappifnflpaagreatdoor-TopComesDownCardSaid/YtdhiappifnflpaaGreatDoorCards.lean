/-
  DERIVED. GIVEN WITH THE SEED: THE CARDS: each row of YtdhiappifnflpaaGreatDoorRows.lean that lists a variable, with what it lists TIED to the program's text (the seventh form; the later family's looks); each row that meets fmt, with fmt's text TOLD by the authors' own Lean function (tested against real Go, not proved from fmt's source: count such statements apart). THE CARD IS WHAT COUNTS. Prove the row's statement (the work); the ties are given (YtdhiappifnflpaaGreatDoorTie.lean); close each card by the builder's one call (the guide's Derived/Test/ToyasCard.lean, 'card_holds'). Laid BY PROGRAM, IN A SANDBOX (cutbox-door.mjs). By AI agents, Wed Nov 11 2026. No macro, syntax, notation, axiom, sorry.
-/
import Derived.Test.YtdhiappifnflpaaGreatDoorRows
import GoSem.ClaimSeven
namespace Go.Proofs.YtdhiappifnflpaaGreatDoor
namespace Rows

/-- THE TIED CARD OF 'bolidetop.TopComesDown'. -/
def topComesDownCard : Claim7 := { stood := { row := topComesDownRow, standIns := [], harness := (true, "2e3e333f2c19bc57f6d13f0664565ec1b66bc544c99fb580a5171a2fee84e4e8"), looks := false }, kinds := [], alts := [], laidByText := true, laidKinds := [.data], laidTests := true, laidLooks := .later }
def TopComesDownCardSaid : Prop := Claim7.holds Tryz.pinned (.plain (OpenSpec.ofChange topComesDownSpec)) topComesDownCard

/-- THE SECOND FORM's CARD OF 'bolidetop.TopComesDown'. -/
def topComesDownUptoCard : Claim7 := { stood := { row := topComesDownUptoRow, standIns := [], harness := (true, "2e3e333f2c19bc57f6d13f0664565ec1b66bc544c99fb580a5171a2fee84e4e8"), looks := false }, kinds := [], alts := [], laidByText := true, laidKinds := [.data], laidTests := true, laidLooks := .later }
def TopComesDownUptoCardSaid : Prop := Claim7.holds Tryz.pinned (.plain (OpenSpec.upto topComesDownSpec)) topComesDownUptoCard
end Rows
end Go.Proofs.YtdhiappifnflpaaGreatDoor
