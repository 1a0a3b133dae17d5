/-
  DERIVED. GIVEN WITH THE SEED: THE CARDS: each row of YtdiigflbohbndaaDoorRows.lean that lists a variable, with what it lists TIED to the program's text (the seventh form; the later family's looks); each row that meets fmt, with fmt's text TOLD by the authors' own Lean function (tested against real Go, not proved from fmt's source: count such statements apart). THE CARD IS WHAT COUNTS. Prove the row's statement (the work); the ties are given (YtdiigflbohbndaaDoorTie.lean); close each card by the builder's one call (the guide's Derived/Test/ToyasCard.lean, 'card_holds'). Laid BY PROGRAM, IN A SANDBOX (cutbox-door.mjs). By AI agents, Wed Nov 11 2026. No macro, syntax, notation, axiom, sorry.
-/
import Derived.Test.YtdiigflbohbndaaDoorRows
import GoSem.ClaimSeven
namespace Go.Proofs.YtdiigflbohbndaaDoor
namespace Rows

/-- THE TIED CARD OF 'bolidelaw07.BlastOrders'. -/
def blastOrdersCard : Claim7 := { stood := { row := blastOrdersRow, standIns := [], harness := (true, "64e91ae1107663cfb424624b8dae5066154f53e817cbcf0c5b5260e0831cd210"), looks := false }, kinds := [], alts := [], laidByText := true, laidKinds := [.data], laidTests := true, laidLooks := .later }
def BlastOrdersCardSaid : Prop := Claim7.holds Tryd.pinned (.plain (OpenSpec.ofChange blastOrdersSpec)) blastOrdersCard

/-- THE TIED CARD OF 'bolidelaw07.BlastHolds'. -/
def blastHoldsCard : Claim7 := { stood := { row := blastHoldsRow, standIns := [], harness := (true, "64e91ae1107663cfb424624b8dae5066154f53e817cbcf0c5b5260e0831cd210"), looks := false }, kinds := [], alts := [], laidByText := true, laidKinds := [.data], laidTests := true, laidLooks := .later }
def BlastHoldsCardSaid : Prop := Claim7.holds Tryd.pinned (.plain (OpenSpec.ofChange blastHoldsSpec)) blastHoldsCard

/-- THE TIED CARD OF 'bolidelaw07.BlastReaches'. -/
def blastReachesCard : Claim7 := { stood := { row := blastReachesRow, standIns := [], harness := (true, "64e91ae1107663cfb424624b8dae5066154f53e817cbcf0c5b5260e0831cd210"), looks := false }, kinds := [], alts := [], laidByText := true, laidKinds := [.data], laidTests := true, laidLooks := .later }
def BlastReachesCardSaid : Prop := Claim7.holds Tryd.pinned (.plain (OpenSpec.ofChange blastReachesSpec)) blastReachesCard

/-- THE TIED CARD OF 'bolidelaw07.BlastChecks'. -/
def blastChecksCard : Claim7 := { stood := { row := blastChecksRow, standIns := [], harness := (true, "64e91ae1107663cfb424624b8dae5066154f53e817cbcf0c5b5260e0831cd210"), looks := false }, kinds := [], alts := [], laidByText := true, laidKinds := [.data], laidTests := true, laidLooks := .later }
def BlastChecksCardSaid : Prop := Claim7.holds Tryd.pinned (.plain (OpenSpec.ofChange blastChecksSpec)) blastChecksCard

/-- THE TIED CARD OF 'bolidelaw07.BlastLands'. -/
def blastLandsCard : Claim7 := { stood := { row := blastLandsRow, standIns := [], harness := (true, "64e91ae1107663cfb424624b8dae5066154f53e817cbcf0c5b5260e0831cd210"), looks := false }, kinds := [], alts := [], laidByText := true, laidKinds := [.data], laidTests := true, laidLooks := .later }
def BlastLandsCardSaid : Prop := Claim7.holds Tryd.pinned (.plain (OpenSpec.ofChange blastLandsSpec)) blastLandsCard

/-- THE TIED CARD OF 'bolidelaw07.BlastFalls'. -/
def blastFallsCard : Claim7 := { stood := { row := blastFallsRow, standIns := [], harness := (true, "64e91ae1107663cfb424624b8dae5066154f53e817cbcf0c5b5260e0831cd210"), looks := false }, kinds := [], alts := [], laidByText := true, laidKinds := [.data], laidTests := true, laidLooks := .later }
def BlastFallsCardSaid : Prop := Claim7.holds Tryd.pinned (.plain (OpenSpec.ofChange blastFallsSpec)) blastFallsCard

/-- THE TIED CARD OF 'bolidelaw07.BlastSole'. -/
def blastSoleCard : Claim7 := { stood := { row := blastSoleRow, standIns := [], harness := (true, "64e91ae1107663cfb424624b8dae5066154f53e817cbcf0c5b5260e0831cd210"), looks := false }, kinds := [], alts := [], laidByText := true, laidKinds := [.data], laidTests := true, laidLooks := .later }
def BlastSoleCardSaid : Prop := Claim7.holds Tryd.pinned (.plain (OpenSpec.ofChange blastSoleSpec)) blastSoleCard

/-- THE TIED CARD OF 'bolidelaw07.BlastHarms'. -/
def blastHarmsCard : Claim7 := { stood := { row := blastHarmsRow, standIns := [], harness := (true, "64e91ae1107663cfb424624b8dae5066154f53e817cbcf0c5b5260e0831cd210"), looks := false }, kinds := [], alts := [], laidByText := true, laidKinds := [.data], laidTests := true, laidLooks := .later }
def BlastHarmsCardSaid : Prop := Claim7.holds Tryd.pinned (.plain (OpenSpec.ofChange blastHarmsSpec)) blastHarmsCard

/-- THE TIED CARD OF 'bolidelaw07.BlastInside'. -/
def blastInsideCard : Claim7 := { stood := { row := blastInsideRow, standIns := [], harness := (true, "64e91ae1107663cfb424624b8dae5066154f53e817cbcf0c5b5260e0831cd210"), looks := false }, kinds := [], alts := [], laidByText := true, laidKinds := [.data], laidTests := true, laidLooks := .later }
def BlastInsideCardSaid : Prop := Claim7.holds Tryd.pinned (.plain (OpenSpec.ofChange blastInsideSpec)) blastInsideCard

/-- THE TIED CARD OF 'bolidelaw07.BlastTolls'. -/
def blastTollsCard : Claim7 := { stood := { row := blastTollsRow, standIns := [], harness := (true, "64e91ae1107663cfb424624b8dae5066154f53e817cbcf0c5b5260e0831cd210"), looks := false }, kinds := [], alts := [], laidByText := true, laidKinds := [.data], laidTests := true, laidLooks := .later }
def BlastTollsCardSaid : Prop := Claim7.holds Tryd.pinned (.plain (OpenSpec.ofChange blastTollsSpec)) blastTollsCard

/-- THE TIED CARD OF 'bolidelaw07.BlastWorst'. -/
def blastWorstCard : Claim7 := { stood := { row := blastWorstRow, standIns := [], harness := (true, "64e91ae1107663cfb424624b8dae5066154f53e817cbcf0c5b5260e0831cd210"), looks := false }, kinds := [], alts := [], laidByText := true, laidKinds := [.data], laidTests := true, laidLooks := .later }
def BlastWorstCardSaid : Prop := Claim7.holds Tryd.pinned (.plain (OpenSpec.ofChange blastWorstSpec)) blastWorstCard

/-- THE TIED CARD OF 'bolidelaw07.BlastEncloses'. -/
def blastEnclosesCard : Claim7 := { stood := { row := blastEnclosesRow, standIns := [], harness := (true, "64e91ae1107663cfb424624b8dae5066154f53e817cbcf0c5b5260e0831cd210"), looks := false }, kinds := [], alts := [], laidByText := true, laidKinds := [.data], laidTests := true, laidLooks := .later }
def BlastEnclosesCardSaid : Prop := Claim7.holds Tryd.pinned (.plain (OpenSpec.ofChange blastEnclosesSpec)) blastEnclosesCard

/-- THE TIED CARD OF 'bolidelaw07.BlastKnown'. -/
def blastKnownCard : Claim7 := { stood := { row := blastKnownRow, standIns := [], harness := (true, "64e91ae1107663cfb424624b8dae5066154f53e817cbcf0c5b5260e0831cd210"), looks := false }, kinds := [], alts := [], laidByText := true, laidKinds := [.data], laidTests := true, laidLooks := .later }
def BlastKnownCardSaid : Prop := Claim7.holds Tryd.pinned (.plain (OpenSpec.ofChange blastKnownSpec)) blastKnownCard

/-- THE SECOND FORM's CARD OF 'bolidelaw07.BlastOrders'. -/
def blastOrdersUptoCard : Claim7 := { stood := { row := blastOrdersUptoRow, standIns := [], harness := (true, "64e91ae1107663cfb424624b8dae5066154f53e817cbcf0c5b5260e0831cd210"), looks := false }, kinds := [], alts := [], laidByText := true, laidKinds := [.data], laidTests := true, laidLooks := .later }
def BlastOrdersUptoCardSaid : Prop := Claim7.holds Tryd.pinned (.plain (OpenSpec.upto blastOrdersSpec)) blastOrdersUptoCard

/-- THE SECOND FORM's CARD OF 'bolidelaw07.BlastHolds'. -/
def blastHoldsUptoCard : Claim7 := { stood := { row := blastHoldsUptoRow, standIns := [], harness := (true, "64e91ae1107663cfb424624b8dae5066154f53e817cbcf0c5b5260e0831cd210"), looks := false }, kinds := [], alts := [], laidByText := true, laidKinds := [.data], laidTests := true, laidLooks := .later }
def BlastHoldsUptoCardSaid : Prop := Claim7.holds Tryd.pinned (.plain (OpenSpec.upto blastHoldsSpec)) blastHoldsUptoCard

/-- THE SECOND FORM's CARD OF 'bolidelaw07.BlastReaches'. -/
def blastReachesUptoCard : Claim7 := { stood := { row := blastReachesUptoRow, standIns := [], harness := (true, "64e91ae1107663cfb424624b8dae5066154f53e817cbcf0c5b5260e0831cd210"), looks := false }, kinds := [], alts := [], laidByText := true, laidKinds := [.data], laidTests := true, laidLooks := .later }
def BlastReachesUptoCardSaid : Prop := Claim7.holds Tryd.pinned (.plain (OpenSpec.upto blastReachesSpec)) blastReachesUptoCard

/-- THE SECOND FORM's CARD OF 'bolidelaw07.BlastChecks'. -/
def blastChecksUptoCard : Claim7 := { stood := { row := blastChecksUptoRow, standIns := [], harness := (true, "64e91ae1107663cfb424624b8dae5066154f53e817cbcf0c5b5260e0831cd210"), looks := false }, kinds := [], alts := [], laidByText := true, laidKinds := [.data], laidTests := true, laidLooks := .later }
def BlastChecksUptoCardSaid : Prop := Claim7.holds Tryd.pinned (.plain (OpenSpec.upto blastChecksSpec)) blastChecksUptoCard

/-- THE SECOND FORM's CARD OF 'bolidelaw07.BlastLands'. -/
def blastLandsUptoCard : Claim7 := { stood := { row := blastLandsUptoRow, standIns := [], harness := (true, "64e91ae1107663cfb424624b8dae5066154f53e817cbcf0c5b5260e0831cd210"), looks := false }, kinds := [], alts := [], laidByText := true, laidKinds := [.data], laidTests := true, laidLooks := .later }
def BlastLandsUptoCardSaid : Prop := Claim7.holds Tryd.pinned (.plain (OpenSpec.upto blastLandsSpec)) blastLandsUptoCard

/-- THE SECOND FORM's CARD OF 'bolidelaw07.BlastFalls'. -/
def blastFallsUptoCard : Claim7 := { stood := { row := blastFallsUptoRow, standIns := [], harness := (true, "64e91ae1107663cfb424624b8dae5066154f53e817cbcf0c5b5260e0831cd210"), looks := false }, kinds := [], alts := [], laidByText := true, laidKinds := [.data], laidTests := true, laidLooks := .later }
def BlastFallsUptoCardSaid : Prop := Claim7.holds Tryd.pinned (.plain (OpenSpec.upto blastFallsSpec)) blastFallsUptoCard

/-- THE SECOND FORM's CARD OF 'bolidelaw07.BlastSole'. -/
def blastSoleUptoCard : Claim7 := { stood := { row := blastSoleUptoRow, standIns := [], harness := (true, "64e91ae1107663cfb424624b8dae5066154f53e817cbcf0c5b5260e0831cd210"), looks := false }, kinds := [], alts := [], laidByText := true, laidKinds := [.data], laidTests := true, laidLooks := .later }
def BlastSoleUptoCardSaid : Prop := Claim7.holds Tryd.pinned (.plain (OpenSpec.upto blastSoleSpec)) blastSoleUptoCard

/-- THE SECOND FORM's CARD OF 'bolidelaw07.BlastHarms'. -/
def blastHarmsUptoCard : Claim7 := { stood := { row := blastHarmsUptoRow, standIns := [], harness := (true, "64e91ae1107663cfb424624b8dae5066154f53e817cbcf0c5b5260e0831cd210"), looks := false }, kinds := [], alts := [], laidByText := true, laidKinds := [.data], laidTests := true, laidLooks := .later }
def BlastHarmsUptoCardSaid : Prop := Claim7.holds Tryd.pinned (.plain (OpenSpec.upto blastHarmsSpec)) blastHarmsUptoCard

/-- THE SECOND FORM's CARD OF 'bolidelaw07.BlastInside'. -/
def blastInsideUptoCard : Claim7 := { stood := { row := blastInsideUptoRow, standIns := [], harness := (true, "64e91ae1107663cfb424624b8dae5066154f53e817cbcf0c5b5260e0831cd210"), looks := false }, kinds := [], alts := [], laidByText := true, laidKinds := [.data], laidTests := true, laidLooks := .later }
def BlastInsideUptoCardSaid : Prop := Claim7.holds Tryd.pinned (.plain (OpenSpec.upto blastInsideSpec)) blastInsideUptoCard

/-- THE SECOND FORM's CARD OF 'bolidelaw07.BlastTolls'. -/
def blastTollsUptoCard : Claim7 := { stood := { row := blastTollsUptoRow, standIns := [], harness := (true, "64e91ae1107663cfb424624b8dae5066154f53e817cbcf0c5b5260e0831cd210"), looks := false }, kinds := [], alts := [], laidByText := true, laidKinds := [.data], laidTests := true, laidLooks := .later }
def BlastTollsUptoCardSaid : Prop := Claim7.holds Tryd.pinned (.plain (OpenSpec.upto blastTollsSpec)) blastTollsUptoCard

/-- THE SECOND FORM's CARD OF 'bolidelaw07.BlastWorst'. -/
def blastWorstUptoCard : Claim7 := { stood := { row := blastWorstUptoRow, standIns := [], harness := (true, "64e91ae1107663cfb424624b8dae5066154f53e817cbcf0c5b5260e0831cd210"), looks := false }, kinds := [], alts := [], laidByText := true, laidKinds := [.data], laidTests := true, laidLooks := .later }
def BlastWorstUptoCardSaid : Prop := Claim7.holds Tryd.pinned (.plain (OpenSpec.upto blastWorstSpec)) blastWorstUptoCard

/-- THE SECOND FORM's CARD OF 'bolidelaw07.BlastEncloses'. -/
def blastEnclosesUptoCard : Claim7 := { stood := { row := blastEnclosesUptoRow, standIns := [], harness := (true, "64e91ae1107663cfb424624b8dae5066154f53e817cbcf0c5b5260e0831cd210"), looks := false }, kinds := [], alts := [], laidByText := true, laidKinds := [.data], laidTests := true, laidLooks := .later }
def BlastEnclosesUptoCardSaid : Prop := Claim7.holds Tryd.pinned (.plain (OpenSpec.upto blastEnclosesSpec)) blastEnclosesUptoCard

/-- THE SECOND FORM's CARD OF 'bolidelaw07.BlastKnown'. -/
def blastKnownUptoCard : Claim7 := { stood := { row := blastKnownUptoRow, standIns := [], harness := (true, "64e91ae1107663cfb424624b8dae5066154f53e817cbcf0c5b5260e0831cd210"), looks := false }, kinds := [], alts := [], laidByText := true, laidKinds := [.data], laidTests := true, laidLooks := .later }
def BlastKnownUptoCardSaid : Prop := Claim7.holds Tryd.pinned (.plain (OpenSpec.upto blastKnownSpec)) blastKnownUptoCard
end Rows
end Go.Proofs.YtdiigflbohbndaaDoor
