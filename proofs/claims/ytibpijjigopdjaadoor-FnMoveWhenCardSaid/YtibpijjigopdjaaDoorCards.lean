/-
  DERIVED. GIVEN WITH THE SEED: THE CARDS: each row of YtibpijjigopdjaaDoorRows.lean that lists a variable, with what it lists TIED to the program's text (the seventh form; the later family's looks); each row that meets fmt, with fmt's text TOLD by the authors' own Lean function (tested against real Go, not proved from fmt's source: count such statements apart). THE CARD IS WHAT COUNTS. Prove the row's statement (the work); the ties are given (YtibpijjigopdjaaDoorTie.lean); close each card by the builder's one call (the guide's Derived/Test/ToyasCard.lean, 'card_holds'). Laid BY PROGRAM, IN A SANDBOX (cutbox-door.mjs). By AI agents, Wed Nov 11 2026. No macro, syntax, notation, axiom, sorry.
-/
import Derived.Test.YtibpijjigopdjaaDoorRows
import GoSem.ClaimSeven
namespace Go.Proofs.YtibpijjigopdjaaDoor
namespace Rows

/-- THE TIED CARD OF 'laws.FnPlanLess'. -/
def fnPlanLessCard : Claim7 := { stood := { row := fnPlanLessRow, standIns := [], harness := (true, "fade3b44c23db266a56e2147ae3255a7ab925cdc4c6ae47b64b1fdce20930162"), looks := true }, kinds := [], alts := [], laidByText := true, laidKinds := [.sentinel], laidTests := true, laidLooks := .later }
def FnPlanLessCardSaid : Prop := Claim7.holds Tryd.pinned (.plain (OpenSpec.ofChange fnPlanLessSpec)) fnPlanLessCard

/-- THE TIED CARD OF 'laws.FnMoveLoad'. -/
def fnMoveLoadCard : Claim7 := { stood := { row := fnMoveLoadRow, standIns := [], harness := (true, "fade3b44c23db266a56e2147ae3255a7ab925cdc4c6ae47b64b1fdce20930162"), looks := true }, kinds := [], alts := [], laidByText := true, laidKinds := [.sentinel], laidTests := true, laidLooks := .later }
def FnMoveLoadCardSaid : Prop := Claim7.holds Tryd.pinned (.plain (OpenSpec.ofChange fnMoveLoadSpec)) fnMoveLoadCard

/-- THE TIED CARD OF 'laws.FnMove'. -/
def fnMoveCard : Claim7 := { stood := { row := fnMoveRow, standIns := [], harness := (true, "fade3b44c23db266a56e2147ae3255a7ab925cdc4c6ae47b64b1fdce20930162"), looks := true }, kinds := [], alts := [], laidByText := true, laidKinds := [.sentinel], laidTests := true, laidLooks := .later }
def FnMoveCardSaid : Prop := Claim7.holds Tryd.pinned (.plain (OpenSpec.ofChange fnMoveSpec)) fnMoveCard

/-- THE TIED CARD OF 'laws.FnMoveBack'. -/
def fnMoveBackCard : Claim7 := { stood := { row := fnMoveBackRow, standIns := [], harness := (true, "fade3b44c23db266a56e2147ae3255a7ab925cdc4c6ae47b64b1fdce20930162"), looks := true }, kinds := [], alts := [], laidByText := true, laidKinds := [.sentinel], laidTests := true, laidLooks := .later }
def FnMoveBackCardSaid : Prop := Claim7.holds Tryd.pinned (.plain (OpenSpec.ofChange fnMoveBackSpec)) fnMoveBackCard

/-- THE TIED CARD OF 'laws.FnPlan'. -/
def fnPlanCard : Claim7 := { stood := { row := fnPlanRow, standIns := [], harness := (true, "fade3b44c23db266a56e2147ae3255a7ab925cdc4c6ae47b64b1fdce20930162"), looks := true }, kinds := [], alts := [], laidByText := true, laidKinds := [.sentinel], laidTests := true, laidLooks := .later }
def FnPlanCardSaid : Prop := Claim7.holds Tryd.pinned (.plain (OpenSpec.ofChange fnPlanSpec)) fnPlanCard

/-- THE TIED CARD OF 'laws.FnPlanEmpty'. -/
def fnPlanEmptyCard : Claim7 := { stood := { row := fnPlanEmptyRow, standIns := [], harness := (true, "fade3b44c23db266a56e2147ae3255a7ab925cdc4c6ae47b64b1fdce20930162"), looks := true }, kinds := [], alts := [], laidByText := true, laidKinds := [.sentinel], laidTests := true, laidLooks := .later }
def FnPlanEmptyCardSaid : Prop := Claim7.holds Tryd.pinned (.plain (OpenSpec.ofChange fnPlanEmptySpec)) fnPlanEmptyCard

/-- THE TIED CARD OF 'laws.FnExactMoveDo'. -/
def fnExactMoveDoCard : Claim7 := { stood := { row := fnExactMoveDoRow, standIns := [], harness := (true, "fade3b44c23db266a56e2147ae3255a7ab925cdc4c6ae47b64b1fdce20930162"), looks := true }, kinds := [], alts := [], laidByText := true, laidKinds := [.sentinel], laidTests := true, laidLooks := .later }
def FnExactMoveDoCardSaid : Prop := Claim7.holds Tryd.pinned (.plain (OpenSpec.ofChange fnExactMoveDoSpec)) fnExactMoveDoCard

/-- THE TIED CARD OF 'laws.FnPlanEnd'. -/
def fnPlanEndCard : Claim7 := { stood := { row := fnPlanEndRow, standIns := [], harness := (true, "fade3b44c23db266a56e2147ae3255a7ab925cdc4c6ae47b64b1fdce20930162"), looks := true }, kinds := [], alts := [], laidByText := true, laidKinds := [.sentinel], laidTests := true, laidLooks := .later }
def FnPlanEndCardSaid : Prop := Claim7.holds Tryd.pinned (.plain (OpenSpec.ofChange fnPlanEndSpec)) fnPlanEndCard

/-- THE TIED CARD OF 'laws.FnMoveWhen'. -/
def fnMoveWhenCard : Claim7 := { stood := { row := fnMoveWhenRow, standIns := [], harness := (true, "fade3b44c23db266a56e2147ae3255a7ab925cdc4c6ae47b64b1fdce20930162"), looks := true }, kinds := [], alts := [], laidByText := true, laidKinds := [.sentinel], laidTests := true, laidLooks := .later }
def FnMoveWhenCardSaid : Prop := Claim7.holds Tryd.pinned (.plain (OpenSpec.ofChange fnMoveWhenSpec)) fnMoveWhenCard

/-- THE TIED CARD OF 'laws.FnMoves'. -/
def fnMovesCard : Claim7 := { stood := { row := fnMovesRow, standIns := [], harness := (true, "fade3b44c23db266a56e2147ae3255a7ab925cdc4c6ae47b64b1fdce20930162"), looks := true }, kinds := [], alts := [], laidByText := true, laidKinds := [.sentinel], laidTests := true, laidLooks := .later }
def FnMovesCardSaid : Prop := Claim7.holds Tryd.pinned (.plain (OpenSpec.ofChange fnMovesSpec)) fnMovesCard

/-- THE TIED CARD OF 'laws.FnMovesStop'. -/
def fnMovesStopCard : Claim7 := { stood := { row := fnMovesStopRow, standIns := [], harness := (true, "fade3b44c23db266a56e2147ae3255a7ab925cdc4c6ae47b64b1fdce20930162"), looks := true }, kinds := [], alts := [], laidByText := true, laidKinds := [.sentinel], laidTests := true, laidLooks := .later }
def FnMovesStopCardSaid : Prop := Claim7.holds Tryd.pinned (.plain (OpenSpec.ofChange fnMovesStopSpec)) fnMovesStopCard

/-- THE TIED CARD OF 'laws.FnExactGatherPlan'. -/
def fnExactGatherPlanCard : Claim7 := { stood := { row := fnExactGatherPlanRow, standIns := [], harness := (true, "fade3b44c23db266a56e2147ae3255a7ab925cdc4c6ae47b64b1fdce20930162"), looks := true }, kinds := [], alts := [], laidByText := true, laidKinds := [.sentinel], laidTests := true, laidLooks := .later }
def FnExactGatherPlanCardSaid : Prop := Claim7.holds Tryd.pinned (.plain (OpenSpec.ofChange fnExactGatherPlanSpec)) fnExactGatherPlanCard

/-- THE TIED CARD OF 'laws.FnExactMovesDo'. -/
def fnExactMovesDoCard : Claim7 := { stood := { row := fnExactMovesDoRow, standIns := [], harness := (true, "fade3b44c23db266a56e2147ae3255a7ab925cdc4c6ae47b64b1fdce20930162"), looks := true }, kinds := [], alts := [], laidByText := true, laidKinds := [.sentinel], laidTests := true, laidLooks := .later }
def FnExactMovesDoCardSaid : Prop := Claim7.holds Tryd.pinned (.plain (OpenSpec.ofChange fnExactMovesDoSpec)) fnExactMovesDoCard

/-- THE SECOND FORM's CARD OF 'laws.FnPlanLess'. -/
def fnPlanLessUptoCard : Claim7 := { stood := { row := fnPlanLessUptoRow, standIns := [], harness := (true, "fade3b44c23db266a56e2147ae3255a7ab925cdc4c6ae47b64b1fdce20930162"), looks := true }, kinds := [], alts := [], laidByText := true, laidKinds := [.sentinel], laidTests := true, laidLooks := .later }
def FnPlanLessUptoCardSaid : Prop := Claim7.holds Tryd.pinned (.plain (OpenSpec.upto fnPlanLessSpec)) fnPlanLessUptoCard

/-- THE SECOND FORM's CARD OF 'laws.FnMoveLoad'. -/
def fnMoveLoadUptoCard : Claim7 := { stood := { row := fnMoveLoadUptoRow, standIns := [], harness := (true, "fade3b44c23db266a56e2147ae3255a7ab925cdc4c6ae47b64b1fdce20930162"), looks := true }, kinds := [], alts := [], laidByText := true, laidKinds := [.sentinel], laidTests := true, laidLooks := .later }
def FnMoveLoadUptoCardSaid : Prop := Claim7.holds Tryd.pinned (.plain (OpenSpec.upto fnMoveLoadSpec)) fnMoveLoadUptoCard

/-- THE SECOND FORM's CARD OF 'laws.FnMove'. -/
def fnMoveUptoCard : Claim7 := { stood := { row := fnMoveUptoRow, standIns := [], harness := (true, "fade3b44c23db266a56e2147ae3255a7ab925cdc4c6ae47b64b1fdce20930162"), looks := true }, kinds := [], alts := [], laidByText := true, laidKinds := [.sentinel], laidTests := true, laidLooks := .later }
def FnMoveUptoCardSaid : Prop := Claim7.holds Tryd.pinned (.plain (OpenSpec.upto fnMoveSpec)) fnMoveUptoCard

/-- THE SECOND FORM's CARD OF 'laws.FnMoveBack'. -/
def fnMoveBackUptoCard : Claim7 := { stood := { row := fnMoveBackUptoRow, standIns := [], harness := (true, "fade3b44c23db266a56e2147ae3255a7ab925cdc4c6ae47b64b1fdce20930162"), looks := true }, kinds := [], alts := [], laidByText := true, laidKinds := [.sentinel], laidTests := true, laidLooks := .later }
def FnMoveBackUptoCardSaid : Prop := Claim7.holds Tryd.pinned (.plain (OpenSpec.upto fnMoveBackSpec)) fnMoveBackUptoCard

/-- THE SECOND FORM's CARD OF 'laws.FnPlan'. -/
def fnPlanUptoCard : Claim7 := { stood := { row := fnPlanUptoRow, standIns := [], harness := (true, "fade3b44c23db266a56e2147ae3255a7ab925cdc4c6ae47b64b1fdce20930162"), looks := true }, kinds := [], alts := [], laidByText := true, laidKinds := [.sentinel], laidTests := true, laidLooks := .later }
def FnPlanUptoCardSaid : Prop := Claim7.holds Tryd.pinned (.plain (OpenSpec.upto fnPlanSpec)) fnPlanUptoCard

/-- THE SECOND FORM's CARD OF 'laws.FnPlanEmpty'. -/
def fnPlanEmptyUptoCard : Claim7 := { stood := { row := fnPlanEmptyUptoRow, standIns := [], harness := (true, "fade3b44c23db266a56e2147ae3255a7ab925cdc4c6ae47b64b1fdce20930162"), looks := true }, kinds := [], alts := [], laidByText := true, laidKinds := [.sentinel], laidTests := true, laidLooks := .later }
def FnPlanEmptyUptoCardSaid : Prop := Claim7.holds Tryd.pinned (.plain (OpenSpec.upto fnPlanEmptySpec)) fnPlanEmptyUptoCard

/-- THE SECOND FORM's CARD OF 'laws.FnExactMoveDo'. -/
def fnExactMoveDoUptoCard : Claim7 := { stood := { row := fnExactMoveDoUptoRow, standIns := [], harness := (true, "fade3b44c23db266a56e2147ae3255a7ab925cdc4c6ae47b64b1fdce20930162"), looks := true }, kinds := [], alts := [], laidByText := true, laidKinds := [.sentinel], laidTests := true, laidLooks := .later }
def FnExactMoveDoUptoCardSaid : Prop := Claim7.holds Tryd.pinned (.plain (OpenSpec.upto fnExactMoveDoSpec)) fnExactMoveDoUptoCard

/-- THE SECOND FORM's CARD OF 'laws.FnPlanEnd'. -/
def fnPlanEndUptoCard : Claim7 := { stood := { row := fnPlanEndUptoRow, standIns := [], harness := (true, "fade3b44c23db266a56e2147ae3255a7ab925cdc4c6ae47b64b1fdce20930162"), looks := true }, kinds := [], alts := [], laidByText := true, laidKinds := [.sentinel], laidTests := true, laidLooks := .later }
def FnPlanEndUptoCardSaid : Prop := Claim7.holds Tryd.pinned (.plain (OpenSpec.upto fnPlanEndSpec)) fnPlanEndUptoCard

/-- THE SECOND FORM's CARD OF 'laws.FnMoveWhen'. -/
def fnMoveWhenUptoCard : Claim7 := { stood := { row := fnMoveWhenUptoRow, standIns := [], harness := (true, "fade3b44c23db266a56e2147ae3255a7ab925cdc4c6ae47b64b1fdce20930162"), looks := true }, kinds := [], alts := [], laidByText := true, laidKinds := [.sentinel], laidTests := true, laidLooks := .later }
def FnMoveWhenUptoCardSaid : Prop := Claim7.holds Tryd.pinned (.plain (OpenSpec.upto fnMoveWhenSpec)) fnMoveWhenUptoCard

/-- THE SECOND FORM's CARD OF 'laws.FnMoves'. -/
def fnMovesUptoCard : Claim7 := { stood := { row := fnMovesUptoRow, standIns := [], harness := (true, "fade3b44c23db266a56e2147ae3255a7ab925cdc4c6ae47b64b1fdce20930162"), looks := true }, kinds := [], alts := [], laidByText := true, laidKinds := [.sentinel], laidTests := true, laidLooks := .later }
def FnMovesUptoCardSaid : Prop := Claim7.holds Tryd.pinned (.plain (OpenSpec.upto fnMovesSpec)) fnMovesUptoCard

/-- THE SECOND FORM's CARD OF 'laws.FnMovesStop'. -/
def fnMovesStopUptoCard : Claim7 := { stood := { row := fnMovesStopUptoRow, standIns := [], harness := (true, "fade3b44c23db266a56e2147ae3255a7ab925cdc4c6ae47b64b1fdce20930162"), looks := true }, kinds := [], alts := [], laidByText := true, laidKinds := [.sentinel], laidTests := true, laidLooks := .later }
def FnMovesStopUptoCardSaid : Prop := Claim7.holds Tryd.pinned (.plain (OpenSpec.upto fnMovesStopSpec)) fnMovesStopUptoCard

/-- THE SECOND FORM's CARD OF 'laws.FnExactGatherPlan'. -/
def fnExactGatherPlanUptoCard : Claim7 := { stood := { row := fnExactGatherPlanUptoRow, standIns := [], harness := (true, "fade3b44c23db266a56e2147ae3255a7ab925cdc4c6ae47b64b1fdce20930162"), looks := true }, kinds := [], alts := [], laidByText := true, laidKinds := [.sentinel], laidTests := true, laidLooks := .later }
def FnExactGatherPlanUptoCardSaid : Prop := Claim7.holds Tryd.pinned (.plain (OpenSpec.upto fnExactGatherPlanSpec)) fnExactGatherPlanUptoCard

/-- THE SECOND FORM's CARD OF 'laws.FnExactMovesDo'. -/
def fnExactMovesDoUptoCard : Claim7 := { stood := { row := fnExactMovesDoUptoRow, standIns := [], harness := (true, "fade3b44c23db266a56e2147ae3255a7ab925cdc4c6ae47b64b1fdce20930162"), looks := true }, kinds := [], alts := [], laidByText := true, laidKinds := [.sentinel], laidTests := true, laidLooks := .later }
def FnExactMovesDoUptoCardSaid : Prop := Claim7.holds Tryd.pinned (.plain (OpenSpec.upto fnExactMovesDoSpec)) fnExactMovesDoUptoCard
end Rows
end Go.Proofs.YtibpijjigopdjaaDoor
