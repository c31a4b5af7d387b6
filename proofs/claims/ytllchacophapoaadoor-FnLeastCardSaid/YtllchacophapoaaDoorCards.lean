/-
  DERIVED. GIVEN WITH THE SEED: THE CARDS: each row of YtllchacophapoaaDoorRows.lean that lists a variable, with what it lists TIED to the program's text (the seventh form; the later family's looks); each row that meets fmt, with fmt's text TOLD by the authors' own Lean function (tested against real Go, not proved from fmt's source: count such statements apart). THE CARD IS WHAT COUNTS. Prove the row's statement (the work); the ties are given (YtllchacophapoaaDoorTie.lean); close each card by the builder's one call (the guide's Derived/Test/ToyasCard.lean, 'card_holds'). Laid BY PROGRAM, IN A SANDBOX (cutbox-door.mjs). By AI agents, Wed Nov 11 2026. No macro, syntax, notation, axiom, sorry.
-/
import Derived.Test.YtllchacophapoaaDoorRows
import GoSem.ClaimSeven
namespace Go.Proofs.YtllchacophapoaaDoor
namespace Rows

/-- THE TIED CARD OF 'laws.FnExactLeastAll'. -/
def fnExactLeastAllCard : Claim7 := { stood := { row := fnExactLeastAllRow, standIns := [], harness := (true, "c131035664295441e16676de3306356d75e3d72d746fa5a03a9bf922b8ad2fa6"), looks := true }, kinds := [], alts := [], laidByText := true, laidKinds := [.data, .data], laidTests := true, laidLooks := .later }
def FnExactLeastAllCardSaid : Prop := Claim7.holds Tryd.pinned (.plain (OpenSpec.ofChange fnExactLeastAllSpec)) fnExactLeastAllCard

/-- THE TIED CARD OF 'laws.FnLeast'. -/
def fnLeastCard : Claim7 := { stood := { row := fnLeastRow, standIns := [], harness := (true, "c131035664295441e16676de3306356d75e3d72d746fa5a03a9bf922b8ad2fa6"), looks := true }, kinds := [], alts := [], laidByText := true, laidKinds := [.data, .data], laidTests := true, laidLooks := .later }
def FnLeastCardSaid : Prop := Claim7.holds Tryd.pinned (.plain (OpenSpec.ofChange fnLeastSpec)) fnLeastCard

/-- THE TIED CARD OF 'laws.FnLeastBound'. -/
def fnLeastBoundCard : Claim7 := { stood := { row := fnLeastBoundRow, standIns := [], harness := (true, "c131035664295441e16676de3306356d75e3d72d746fa5a03a9bf922b8ad2fa6"), looks := true }, kinds := [], alts := [], laidByText := true, laidKinds := [.data, .data], laidTests := true, laidLooks := .later }
def FnLeastBoundCardSaid : Prop := Claim7.holds Tryd.pinned (.plain (OpenSpec.ofChange fnLeastBoundSpec)) fnLeastBoundCard

/-- THE SECOND FORM's CARD OF 'laws.FnExactLeastAll'. -/
def fnExactLeastAllUptoCard : Claim7 := { stood := { row := fnExactLeastAllUptoRow, standIns := [], harness := (true, "c131035664295441e16676de3306356d75e3d72d746fa5a03a9bf922b8ad2fa6"), looks := true }, kinds := [], alts := [], laidByText := true, laidKinds := [.data, .data], laidTests := true, laidLooks := .later }
def FnExactLeastAllUptoCardSaid : Prop := Claim7.holds Tryd.pinned (.plain (OpenSpec.upto fnExactLeastAllSpec)) fnExactLeastAllUptoCard

/-- THE SECOND FORM's CARD OF 'laws.FnLeast'. -/
def fnLeastUptoCard : Claim7 := { stood := { row := fnLeastUptoRow, standIns := [], harness := (true, "c131035664295441e16676de3306356d75e3d72d746fa5a03a9bf922b8ad2fa6"), looks := true }, kinds := [], alts := [], laidByText := true, laidKinds := [.data, .data], laidTests := true, laidLooks := .later }
def FnLeastUptoCardSaid : Prop := Claim7.holds Tryd.pinned (.plain (OpenSpec.upto fnLeastSpec)) fnLeastUptoCard

/-- THE SECOND FORM's CARD OF 'laws.FnLeastBound'. -/
def fnLeastBoundUptoCard : Claim7 := { stood := { row := fnLeastBoundUptoRow, standIns := [], harness := (true, "c131035664295441e16676de3306356d75e3d72d746fa5a03a9bf922b8ad2fa6"), looks := true }, kinds := [], alts := [], laidByText := true, laidKinds := [.data, .data], laidTests := true, laidLooks := .later }
def FnLeastBoundUptoCardSaid : Prop := Claim7.holds Tryd.pinned (.plain (OpenSpec.upto fnLeastBoundSpec)) fnLeastBoundUptoCard
end Rows
end Go.Proofs.YtllchacophapoaaDoor
