/-
  NARROWER THAN 'FOR EVERY INPUT', by the rows' own cells (each row's printed sentence says how): FnPlanLess: ifaces, laid · FnMoveLoad: ifaces, laid · FnMove: ifaces, laid · FnMoveBack: ifaces, laid · FnPlan: ifaces, laid · FnPlanEmpty: ifaces, laid · FnExactMoveDo: ifaces, laid · FnPlanEnd: ifaces, laid · FnMoveWhen: ifaces, laid · FnMoves: ifaces, laid · FnMovesStop: ifaces, laid · FnExactGatherPlan: ifaces, laid · FnExactMovesDo: ifaces, laid.
  DERIVED. THE GIVEN ROWS OF THIS SEAT. 13 by the template 'for every input the law returns true; each argument reads behind the call as it read before'; 0 by the template 'total and deterministic' (their statements: YtibpijjigopdjaaDoorTotals.lean).
  GIVEN WITH THE SEED: the statements are not yours to turn. If you find one false, say at which input.
  Laid BY PROGRAM, IN A SANDBOX (cutbox-rows.mjs): the forced cells as the released guide's own fill.sh prints them over the translation 33bff2dcce7e8c0f… (all of the seat's roots in one cut). By AI agents, Wed Nov 11 2026. No macro, syntax, notation, axiom, sorry.
-/
import Derived.Test.YtibpijjigopdjaaDoorChecked
import GoSem.Claim
import GoSem.ClaimJoined
import GoSem.ClaimMapViews
import Derived.JoinedTies
import Derived.KernelRfl
namespace Go.Proofs.YtibpijjigopdjaaDoor
/- THE CELL 'sum', in the pinned program and in every row, IS THE sha256 OF THE DUMP (.gsa) THAT YtibpijjigopdjaaDoorProg.lean LOADS. Nothing in Lean hashes anything: it is a label: what it is worth is what the hold of that sum in a sandbox is worth. -/
noncomputable def Tryd.pinned : Pinned := { name := "ytibpijjigopdjaadoor", sum := "33bff2dcce7e8c0f7c3c71a3239cb676fe41411d6379d82c3959c7d0154b4739", checked := Tryd.checked }
namespace Rows
def none {H : Type} : Left H := { results := [], args := [] }

/- WHAT THE LISTED PACKAGE-LEVEL VARIABLES READ AS WHEN THE CALL BEGINS. Each datum BY PROGRAM (the guide's laid-datum.mjs) off the statement by which the dump's own 'gosem.cut.vars' lays the variable. In a bare row this is a premise. The card (YtibpijjigopdjaaDoorCards.lean) ties it to the program's text. -/
def laid_loop_example_vectorpacker_impl_errMove {H : Type} : DataW H := .iface "*errors.errorString" (.ptr (.agg [.lit (.string [110, 111, 32, 109, 111, 118, 101])]))

/-- 'laws.FnPlanLess': WHATEVER THE INPUT: true; the input reads as it did. -/
def fnPlanLessSpec : ChangeSpec := { name := "fnPlanLess", vars := ["loop.example/vectorpacker/impl.errMove"], fn := fun _ => fun
  | [d, g1] => { results := [.lit (.bool true)], args := [d], vars := [g1] }
  | _ => none }
def fnPlanLessRow : OpenClaim := { program := "ytibpijjigopdjaadoor", sum := "33bff2dcce7e8c0f7c3c71a3239cb676fe41411d6379d82c3959c7d0154b4739", func := "loop.example/vectorpacker/laws.FnPlanLess", spec := "fnPlanLess", unfollowed := true, recurses := true, named := ["loop.example/vectorpacker/impl.errMove"], ifaces := true, apart := false, laid := [("loop.example/vectorpacker/impl.errMove", laid_loop_example_vectorpacker_impl_errMove)] }
def FnPlanLessSaid : Prop := fnPlanLessRow.holds Tryd.pinned (OpenSpec.ofChange fnPlanLessSpec)

/-- ITS FALSE NEIGHBOUR: 'it returns false'. Refute it at one input. -/
def fnPlanLessWrong : ChangeSpec := { name := "fnPlanLess", vars := ["loop.example/vectorpacker/impl.errMove"], fn := fun _ => fun
  | [d, g1] => { results := [.lit (.bool false)], args := [d], vars := [g1] }
  | _ => none }
def FnPlanLessWrongFalsely : Prop := fnPlanLessRow.holds Tryd.pinned (OpenSpec.ofChange fnPlanLessWrong)

/-- 'laws.FnMoveLoad': WHATEVER THE INPUT: true; the input reads as it did. -/
def fnMoveLoadSpec : ChangeSpec := { name := "fnMoveLoad", vars := ["loop.example/vectorpacker/impl.errMove"], fn := fun _ => fun
  | [d, g1] => { results := [.lit (.bool true)], args := [d], vars := [g1] }
  | _ => none }
def fnMoveLoadRow : OpenClaim := { program := "ytibpijjigopdjaadoor", sum := "33bff2dcce7e8c0f7c3c71a3239cb676fe41411d6379d82c3959c7d0154b4739", func := "loop.example/vectorpacker/laws.FnMoveLoad", spec := "fnMoveLoad", inPlace := ["internal/reflectlite.TypeOf"], unfollowed := true, recurses := true, named := ["loop.example/vectorpacker/impl.errMove"], ifaces := true, apart := false, laid := [("loop.example/vectorpacker/impl.errMove", laid_loop_example_vectorpacker_impl_errMove)] }
def FnMoveLoadSaid : Prop := fnMoveLoadRow.holds Tryd.pinned (OpenSpec.ofChange fnMoveLoadSpec)

/-- ITS FALSE NEIGHBOUR: 'it returns false'. Refute it at one input. -/
def fnMoveLoadWrong : ChangeSpec := { name := "fnMoveLoad", vars := ["loop.example/vectorpacker/impl.errMove"], fn := fun _ => fun
  | [d, g1] => { results := [.lit (.bool false)], args := [d], vars := [g1] }
  | _ => none }
def FnMoveLoadWrongFalsely : Prop := fnMoveLoadRow.holds Tryd.pinned (OpenSpec.ofChange fnMoveLoadWrong)

/-- 'laws.FnMove': WHATEVER THE INPUT: true; the input reads as it did. -/
def fnMoveSpec : ChangeSpec := { name := "fnMove", vars := ["loop.example/vectorpacker/impl.errMove"], fn := fun _ => fun
  | [d, g1] => { results := [.lit (.bool true)], args := [d], vars := [g1] }
  | _ => none }
def fnMoveRow : OpenClaim := { program := "ytibpijjigopdjaadoor", sum := "33bff2dcce7e8c0f7c3c71a3239cb676fe41411d6379d82c3959c7d0154b4739", func := "loop.example/vectorpacker/laws.FnMove", spec := "fnMove", inPlace := ["internal/reflectlite.TypeOf"], unfollowed := true, recurses := true, named := ["loop.example/vectorpacker/impl.errMove"], ifaces := true, apart := false, laid := [("loop.example/vectorpacker/impl.errMove", laid_loop_example_vectorpacker_impl_errMove)] }
def FnMoveSaid : Prop := fnMoveRow.holds Tryd.pinned (OpenSpec.ofChange fnMoveSpec)

/-- ITS FALSE NEIGHBOUR: 'it returns false'. Refute it at one input. -/
def fnMoveWrong : ChangeSpec := { name := "fnMove", vars := ["loop.example/vectorpacker/impl.errMove"], fn := fun _ => fun
  | [d, g1] => { results := [.lit (.bool false)], args := [d], vars := [g1] }
  | _ => none }
def FnMoveWrongFalsely : Prop := fnMoveRow.holds Tryd.pinned (OpenSpec.ofChange fnMoveWrong)

/-- 'laws.FnMoveBack': WHATEVER THE INPUT: true; the input reads as it did. -/
def fnMoveBackSpec : ChangeSpec := { name := "fnMoveBack", vars := ["loop.example/vectorpacker/impl.errMove"], fn := fun _ => fun
  | [d, g1] => { results := [.lit (.bool true)], args := [d], vars := [g1] }
  | _ => none }
def fnMoveBackRow : OpenClaim := { program := "ytibpijjigopdjaadoor", sum := "33bff2dcce7e8c0f7c3c71a3239cb676fe41411d6379d82c3959c7d0154b4739", func := "loop.example/vectorpacker/laws.FnMoveBack", spec := "fnMoveBack", inPlace := ["internal/reflectlite.TypeOf"], unfollowed := true, recurses := true, named := ["loop.example/vectorpacker/impl.errMove"], ifaces := true, apart := false, laid := [("loop.example/vectorpacker/impl.errMove", laid_loop_example_vectorpacker_impl_errMove)] }
def FnMoveBackSaid : Prop := fnMoveBackRow.holds Tryd.pinned (OpenSpec.ofChange fnMoveBackSpec)

/-- ITS FALSE NEIGHBOUR: 'it returns false'. Refute it at one input. -/
def fnMoveBackWrong : ChangeSpec := { name := "fnMoveBack", vars := ["loop.example/vectorpacker/impl.errMove"], fn := fun _ => fun
  | [d, g1] => { results := [.lit (.bool false)], args := [d], vars := [g1] }
  | _ => none }
def FnMoveBackWrongFalsely : Prop := fnMoveBackRow.holds Tryd.pinned (OpenSpec.ofChange fnMoveBackWrong)

/-- 'laws.FnPlan': WHATEVER THE INPUT: true; the input reads as it did. -/
def fnPlanSpec : ChangeSpec := { name := "fnPlan", vars := ["loop.example/vectorpacker/impl.errMove"], fn := fun _ => fun
  | [d, g1] => { results := [.lit (.bool true)], args := [d], vars := [g1] }
  | _ => none }
def fnPlanRow : OpenClaim := { program := "ytibpijjigopdjaadoor", sum := "33bff2dcce7e8c0f7c3c71a3239cb676fe41411d6379d82c3959c7d0154b4739", func := "loop.example/vectorpacker/laws.FnPlan", spec := "fnPlan", inPlace := ["internal/reflectlite.TypeOf"], unfollowed := true, recurses := true, named := ["loop.example/vectorpacker/impl.errMove"], ifaces := true, apart := false, laid := [("loop.example/vectorpacker/impl.errMove", laid_loop_example_vectorpacker_impl_errMove)] }
def FnPlanSaid : Prop := fnPlanRow.holds Tryd.pinned (OpenSpec.ofChange fnPlanSpec)

/-- ITS FALSE NEIGHBOUR: 'it returns false'. Refute it at one input. -/
def fnPlanWrong : ChangeSpec := { name := "fnPlan", vars := ["loop.example/vectorpacker/impl.errMove"], fn := fun _ => fun
  | [d, g1] => { results := [.lit (.bool false)], args := [d], vars := [g1] }
  | _ => none }
def FnPlanWrongFalsely : Prop := fnPlanRow.holds Tryd.pinned (OpenSpec.ofChange fnPlanWrong)

/-- 'laws.FnPlanEmpty': WHATEVER THE INPUT: true; the input reads as it did. -/
def fnPlanEmptySpec : ChangeSpec := { name := "fnPlanEmpty", vars := ["loop.example/vectorpacker/impl.errMove"], fn := fun _ => fun
  | [d, g1] => { results := [.lit (.bool true)], args := [d], vars := [g1] }
  | _ => none }
def fnPlanEmptyRow : OpenClaim := { program := "ytibpijjigopdjaadoor", sum := "33bff2dcce7e8c0f7c3c71a3239cb676fe41411d6379d82c3959c7d0154b4739", func := "loop.example/vectorpacker/laws.FnPlanEmpty", spec := "fnPlanEmpty", inPlace := ["internal/reflectlite.TypeOf"], unfollowed := true, recurses := true, named := ["loop.example/vectorpacker/impl.errMove"], ifaces := true, apart := false, laid := [("loop.example/vectorpacker/impl.errMove", laid_loop_example_vectorpacker_impl_errMove)] }
def FnPlanEmptySaid : Prop := fnPlanEmptyRow.holds Tryd.pinned (OpenSpec.ofChange fnPlanEmptySpec)

/-- ITS FALSE NEIGHBOUR: 'it returns false'. Refute it at one input. -/
def fnPlanEmptyWrong : ChangeSpec := { name := "fnPlanEmpty", vars := ["loop.example/vectorpacker/impl.errMove"], fn := fun _ => fun
  | [d, g1] => { results := [.lit (.bool false)], args := [d], vars := [g1] }
  | _ => none }
def FnPlanEmptyWrongFalsely : Prop := fnPlanEmptyRow.holds Tryd.pinned (OpenSpec.ofChange fnPlanEmptyWrong)

/-- 'laws.FnExactMoveDo': WHATEVER THE INPUT: true; the input reads as it did. -/
def fnExactMoveDoSpec : ChangeSpec := { name := "fnExactMoveDo", vars := ["loop.example/vectorpacker/impl.errMove"], fn := fun _ => fun
  | [d1, d2, d3, g1] => { results := [.lit (.bool true)], args := [d1, d2, d3], vars := [g1] }
  | _ => none }
def fnExactMoveDoRow : OpenClaim := { program := "ytibpijjigopdjaadoor", sum := "33bff2dcce7e8c0f7c3c71a3239cb676fe41411d6379d82c3959c7d0154b4739", func := "loop.example/vectorpacker/laws.FnExactMoveDo", spec := "fnExactMoveDo", inPlace := ["internal/reflectlite.TypeOf"], unfollowed := true, recurses := true, named := ["loop.example/vectorpacker/impl.errMove"], ifaces := true, apart := false, laid := [("loop.example/vectorpacker/impl.errMove", laid_loop_example_vectorpacker_impl_errMove)] }
def FnExactMoveDoSaid : Prop := fnExactMoveDoRow.holds Tryd.pinned (OpenSpec.ofChange fnExactMoveDoSpec)

/-- ITS FALSE NEIGHBOUR: 'it returns false'. Refute it at one input. -/
def fnExactMoveDoWrong : ChangeSpec := { name := "fnExactMoveDo", vars := ["loop.example/vectorpacker/impl.errMove"], fn := fun _ => fun
  | [d1, d2, d3, g1] => { results := [.lit (.bool false)], args := [d1, d2, d3], vars := [g1] }
  | _ => none }
def FnExactMoveDoWrongFalsely : Prop := fnExactMoveDoRow.holds Tryd.pinned (OpenSpec.ofChange fnExactMoveDoWrong)

/-- 'laws.FnPlanEnd': WHATEVER THE INPUT: true; the input reads as it did. -/
def fnPlanEndSpec : ChangeSpec := { name := "fnPlanEnd", vars := ["loop.example/vectorpacker/impl.errMove"], fn := fun _ => fun
  | [d, g1] => { results := [.lit (.bool true)], args := [d], vars := [g1] }
  | _ => none }
def fnPlanEndRow : OpenClaim := { program := "ytibpijjigopdjaadoor", sum := "33bff2dcce7e8c0f7c3c71a3239cb676fe41411d6379d82c3959c7d0154b4739", func := "loop.example/vectorpacker/laws.FnPlanEnd", spec := "fnPlanEnd", inPlace := ["internal/reflectlite.TypeOf"], unfollowed := true, recurses := true, named := ["loop.example/vectorpacker/impl.errMove"], ifaces := true, apart := false, laid := [("loop.example/vectorpacker/impl.errMove", laid_loop_example_vectorpacker_impl_errMove)] }
def FnPlanEndSaid : Prop := fnPlanEndRow.holds Tryd.pinned (OpenSpec.ofChange fnPlanEndSpec)

/-- ITS FALSE NEIGHBOUR: 'it returns false'. Refute it at one input. -/
def fnPlanEndWrong : ChangeSpec := { name := "fnPlanEnd", vars := ["loop.example/vectorpacker/impl.errMove"], fn := fun _ => fun
  | [d, g1] => { results := [.lit (.bool false)], args := [d], vars := [g1] }
  | _ => none }
def FnPlanEndWrongFalsely : Prop := fnPlanEndRow.holds Tryd.pinned (OpenSpec.ofChange fnPlanEndWrong)

/-- 'laws.FnMoveWhen': WHATEVER THE INPUT: true; the input reads as it did. -/
def fnMoveWhenSpec : ChangeSpec := { name := "fnMoveWhen", vars := ["loop.example/vectorpacker/impl.errMove"], fn := fun _ => fun
  | [d, g1] => { results := [.lit (.bool true)], args := [d], vars := [g1] }
  | _ => none }
def fnMoveWhenRow : OpenClaim := { program := "ytibpijjigopdjaadoor", sum := "33bff2dcce7e8c0f7c3c71a3239cb676fe41411d6379d82c3959c7d0154b4739", func := "loop.example/vectorpacker/laws.FnMoveWhen", spec := "fnMoveWhen", inPlace := ["internal/reflectlite.TypeOf"], unfollowed := true, recurses := true, named := ["loop.example/vectorpacker/impl.errMove"], ifaces := true, apart := false, laid := [("loop.example/vectorpacker/impl.errMove", laid_loop_example_vectorpacker_impl_errMove)] }
def FnMoveWhenSaid : Prop := fnMoveWhenRow.holds Tryd.pinned (OpenSpec.ofChange fnMoveWhenSpec)

/-- ITS FALSE NEIGHBOUR: 'it returns false'. Refute it at one input. -/
def fnMoveWhenWrong : ChangeSpec := { name := "fnMoveWhen", vars := ["loop.example/vectorpacker/impl.errMove"], fn := fun _ => fun
  | [d, g1] => { results := [.lit (.bool false)], args := [d], vars := [g1] }
  | _ => none }
def FnMoveWhenWrongFalsely : Prop := fnMoveWhenRow.holds Tryd.pinned (OpenSpec.ofChange fnMoveWhenWrong)

/-- 'laws.FnMoves': WHATEVER THE INPUT: true; the input reads as it did. -/
def fnMovesSpec : ChangeSpec := { name := "fnMoves", vars := ["loop.example/vectorpacker/impl.errMove"], fn := fun _ => fun
  | [d1, d2, g1] => { results := [.lit (.bool true)], args := [d1, d2], vars := [g1] }
  | _ => none }
def fnMovesRow : OpenClaim := { program := "ytibpijjigopdjaadoor", sum := "33bff2dcce7e8c0f7c3c71a3239cb676fe41411d6379d82c3959c7d0154b4739", func := "loop.example/vectorpacker/laws.FnMoves", spec := "fnMoves", inPlace := ["internal/reflectlite.TypeOf"], unfollowed := true, recurses := true, named := ["loop.example/vectorpacker/impl.errMove"], ifaces := true, apart := false, laid := [("loop.example/vectorpacker/impl.errMove", laid_loop_example_vectorpacker_impl_errMove)] }
def FnMovesSaid : Prop := fnMovesRow.holds Tryd.pinned (OpenSpec.ofChange fnMovesSpec)

/-- ITS FALSE NEIGHBOUR: 'it returns false'. Refute it at one input. -/
def fnMovesWrong : ChangeSpec := { name := "fnMoves", vars := ["loop.example/vectorpacker/impl.errMove"], fn := fun _ => fun
  | [d1, d2, g1] => { results := [.lit (.bool false)], args := [d1, d2], vars := [g1] }
  | _ => none }
def FnMovesWrongFalsely : Prop := fnMovesRow.holds Tryd.pinned (OpenSpec.ofChange fnMovesWrong)

/-- 'laws.FnMovesStop': WHATEVER THE INPUT: true; the input reads as it did. -/
def fnMovesStopSpec : ChangeSpec := { name := "fnMovesStop", vars := ["loop.example/vectorpacker/impl.errMove"], fn := fun _ => fun
  | [d, g1] => { results := [.lit (.bool true)], args := [d], vars := [g1] }
  | _ => none }
def fnMovesStopRow : OpenClaim := { program := "ytibpijjigopdjaadoor", sum := "33bff2dcce7e8c0f7c3c71a3239cb676fe41411d6379d82c3959c7d0154b4739", func := "loop.example/vectorpacker/laws.FnMovesStop", spec := "fnMovesStop", inPlace := ["internal/reflectlite.TypeOf"], unfollowed := true, recurses := true, named := ["loop.example/vectorpacker/impl.errMove"], ifaces := true, apart := false, laid := [("loop.example/vectorpacker/impl.errMove", laid_loop_example_vectorpacker_impl_errMove)] }
def FnMovesStopSaid : Prop := fnMovesStopRow.holds Tryd.pinned (OpenSpec.ofChange fnMovesStopSpec)

/-- ITS FALSE NEIGHBOUR: 'it returns false'. Refute it at one input. -/
def fnMovesStopWrong : ChangeSpec := { name := "fnMovesStop", vars := ["loop.example/vectorpacker/impl.errMove"], fn := fun _ => fun
  | [d, g1] => { results := [.lit (.bool false)], args := [d], vars := [g1] }
  | _ => none }
def FnMovesStopWrongFalsely : Prop := fnMovesStopRow.holds Tryd.pinned (OpenSpec.ofChange fnMovesStopWrong)

/-- 'laws.FnExactGatherPlan': WHATEVER THE INPUT: true; the input reads as it did. -/
def fnExactGatherPlanSpec : ChangeSpec := { name := "fnExactGatherPlan", vars := ["loop.example/vectorpacker/impl.errMove"], fn := fun _ => fun
  | [d1, d2, d3, g1] => { results := [.lit (.bool true)], args := [d1, d2, d3], vars := [g1] }
  | _ => none }
def fnExactGatherPlanRow : OpenClaim := { program := "ytibpijjigopdjaadoor", sum := "33bff2dcce7e8c0f7c3c71a3239cb676fe41411d6379d82c3959c7d0154b4739", func := "loop.example/vectorpacker/laws.FnExactGatherPlan", spec := "fnExactGatherPlan", unfollowed := true, recurses := true, named := ["loop.example/vectorpacker/impl.errMove"], ifaces := true, apart := false, laid := [("loop.example/vectorpacker/impl.errMove", laid_loop_example_vectorpacker_impl_errMove)] }
def FnExactGatherPlanSaid : Prop := fnExactGatherPlanRow.holds Tryd.pinned (OpenSpec.ofChange fnExactGatherPlanSpec)

/-- ITS FALSE NEIGHBOUR: 'it returns false'. Refute it at one input. -/
def fnExactGatherPlanWrong : ChangeSpec := { name := "fnExactGatherPlan", vars := ["loop.example/vectorpacker/impl.errMove"], fn := fun _ => fun
  | [d1, d2, d3, g1] => { results := [.lit (.bool false)], args := [d1, d2, d3], vars := [g1] }
  | _ => none }
def FnExactGatherPlanWrongFalsely : Prop := fnExactGatherPlanRow.holds Tryd.pinned (OpenSpec.ofChange fnExactGatherPlanWrong)

/-- 'laws.FnExactMovesDo': WHATEVER THE INPUT: true; the input reads as it did. -/
def fnExactMovesDoSpec : ChangeSpec := { name := "fnExactMovesDo", vars := ["loop.example/vectorpacker/impl.errMove"], fn := fun _ => fun
  | [d1, d2, d3, g1] => { results := [.lit (.bool true)], args := [d1, d2, d3], vars := [g1] }
  | _ => none }
def fnExactMovesDoRow : OpenClaim := { program := "ytibpijjigopdjaadoor", sum := "33bff2dcce7e8c0f7c3c71a3239cb676fe41411d6379d82c3959c7d0154b4739", func := "loop.example/vectorpacker/laws.FnExactMovesDo", spec := "fnExactMovesDo", inPlace := ["internal/reflectlite.TypeOf"], unfollowed := true, recurses := true, named := ["loop.example/vectorpacker/impl.errMove"], ifaces := true, apart := false, laid := [("loop.example/vectorpacker/impl.errMove", laid_loop_example_vectorpacker_impl_errMove)] }
def FnExactMovesDoSaid : Prop := fnExactMovesDoRow.holds Tryd.pinned (OpenSpec.ofChange fnExactMovesDoSpec)

/-- ITS FALSE NEIGHBOUR: 'it returns false'. Refute it at one input. -/
def fnExactMovesDoWrong : ChangeSpec := { name := "fnExactMovesDo", vars := ["loop.example/vectorpacker/impl.errMove"], fn := fun _ => fun
  | [d1, d2, d3, g1] => { results := [.lit (.bool false)], args := [d1, d2, d3], vars := [g1] }
  | _ => none }
def FnExactMovesDoWrongFalsely : Prop := fnExactMovesDoRow.holds Tryd.pinned (OpenSpec.ofChange fnExactMovesDoWrong)

/- THE SECOND FORM. 'bulk': how many values and letters a reading holds, each counted each time it is reached (what is shared counts as often as it is met; a slice's spare places count too). A statement '..UptoSaid' is the law's where the arguments, and the package variables that the reading takes, are together of bulk at most 1048576: NARROWER than '..Said'. Prove '..Said' where nothing that the law and all that it calls make is longer than what came in: it says more and counts as full. Else prove '..UptoSaid'. A law counts once. -/
mutual
def uptoBulk {H : Type} : DataW H → Nat
  | .lit (.string bytes) => bytes.length + 1
  | .lit _ => 1
  | .nil => 1
  | .ptr d => uptoBulk d + 1
  | .slice elems spare => uptoBulkAll elems + uptoBulkAll spare + 1
  | .agg parts => uptoBulkAll parts + 1
  | .iface _ d => uptoBulk d + 1
  | .map entries => uptoBulkEntries entries + 1
  | .held _ => 1
def uptoBulkAll {H : Type} : List (DataW H) → Nat
  | [] => 0
  | d :: r => uptoBulk d + uptoBulkAll r
def uptoBulkEntries {H : Type} : List (Lit × DataW H) → Nat
  | [] => 0
  | x :: r => uptoBulkEntry x + uptoBulkEntries r
def uptoBulkEntry {H : Type} : Lit × DataW H → Nat
  | (.string bytes, d) => bytes.length + uptoBulk d + 1
  | (_, d) => uptoBulk d + 1
 end
def uptoSmall : (H : Type) → List (DataW H) → Bool := fun _ ds => decide (uptoBulkAll ds ≤ 1048576)
def OpenSpec.upto (s : _root_.Go.ChangeSpec) : _root_.Go.OpenSpec := { _root_.Go.OpenSpec.ofChange s with cond := some uptoSmall }

/-- 'laws.FnPlanLess', WHERE WHAT IT READS IS OF BULK AT MOST 1048576: true; the input reads as it did. -/
def fnPlanLessUptoRow : OpenClaim := { program := "ytibpijjigopdjaadoor", sum := "33bff2dcce7e8c0f7c3c71a3239cb676fe41411d6379d82c3959c7d0154b4739", func := "loop.example/vectorpacker/laws.FnPlanLess", spec := "fnPlanLess", unfollowed := true, recurses := true, named := ["loop.example/vectorpacker/impl.errMove"], ifaces := true, apart := false, laid := [("loop.example/vectorpacker/impl.errMove", laid_loop_example_vectorpacker_impl_errMove)], narrowed := true }
def FnPlanLessUptoSaid : Prop := fnPlanLessUptoRow.holds Tryd.pinned (OpenSpec.upto fnPlanLessSpec)

/-- 'laws.FnMoveLoad', WHERE WHAT IT READS IS OF BULK AT MOST 1048576: true; the input reads as it did. -/
def fnMoveLoadUptoRow : OpenClaim := { program := "ytibpijjigopdjaadoor", sum := "33bff2dcce7e8c0f7c3c71a3239cb676fe41411d6379d82c3959c7d0154b4739", func := "loop.example/vectorpacker/laws.FnMoveLoad", spec := "fnMoveLoad", inPlace := ["internal/reflectlite.TypeOf"], unfollowed := true, recurses := true, named := ["loop.example/vectorpacker/impl.errMove"], ifaces := true, apart := false, laid := [("loop.example/vectorpacker/impl.errMove", laid_loop_example_vectorpacker_impl_errMove)], narrowed := true }
def FnMoveLoadUptoSaid : Prop := fnMoveLoadUptoRow.holds Tryd.pinned (OpenSpec.upto fnMoveLoadSpec)

/-- 'laws.FnMove', WHERE WHAT IT READS IS OF BULK AT MOST 1048576: true; the input reads as it did. -/
def fnMoveUptoRow : OpenClaim := { program := "ytibpijjigopdjaadoor", sum := "33bff2dcce7e8c0f7c3c71a3239cb676fe41411d6379d82c3959c7d0154b4739", func := "loop.example/vectorpacker/laws.FnMove", spec := "fnMove", inPlace := ["internal/reflectlite.TypeOf"], unfollowed := true, recurses := true, named := ["loop.example/vectorpacker/impl.errMove"], ifaces := true, apart := false, laid := [("loop.example/vectorpacker/impl.errMove", laid_loop_example_vectorpacker_impl_errMove)], narrowed := true }
def FnMoveUptoSaid : Prop := fnMoveUptoRow.holds Tryd.pinned (OpenSpec.upto fnMoveSpec)

/-- 'laws.FnMoveBack', WHERE WHAT IT READS IS OF BULK AT MOST 1048576: true; the input reads as it did. -/
def fnMoveBackUptoRow : OpenClaim := { program := "ytibpijjigopdjaadoor", sum := "33bff2dcce7e8c0f7c3c71a3239cb676fe41411d6379d82c3959c7d0154b4739", func := "loop.example/vectorpacker/laws.FnMoveBack", spec := "fnMoveBack", inPlace := ["internal/reflectlite.TypeOf"], unfollowed := true, recurses := true, named := ["loop.example/vectorpacker/impl.errMove"], ifaces := true, apart := false, laid := [("loop.example/vectorpacker/impl.errMove", laid_loop_example_vectorpacker_impl_errMove)], narrowed := true }
def FnMoveBackUptoSaid : Prop := fnMoveBackUptoRow.holds Tryd.pinned (OpenSpec.upto fnMoveBackSpec)

/-- 'laws.FnPlan', WHERE WHAT IT READS IS OF BULK AT MOST 1048576: true; the input reads as it did. -/
def fnPlanUptoRow : OpenClaim := { program := "ytibpijjigopdjaadoor", sum := "33bff2dcce7e8c0f7c3c71a3239cb676fe41411d6379d82c3959c7d0154b4739", func := "loop.example/vectorpacker/laws.FnPlan", spec := "fnPlan", inPlace := ["internal/reflectlite.TypeOf"], unfollowed := true, recurses := true, named := ["loop.example/vectorpacker/impl.errMove"], ifaces := true, apart := false, laid := [("loop.example/vectorpacker/impl.errMove", laid_loop_example_vectorpacker_impl_errMove)], narrowed := true }
def FnPlanUptoSaid : Prop := fnPlanUptoRow.holds Tryd.pinned (OpenSpec.upto fnPlanSpec)

/-- 'laws.FnPlanEmpty', WHERE WHAT IT READS IS OF BULK AT MOST 1048576: true; the input reads as it did. -/
def fnPlanEmptyUptoRow : OpenClaim := { program := "ytibpijjigopdjaadoor", sum := "33bff2dcce7e8c0f7c3c71a3239cb676fe41411d6379d82c3959c7d0154b4739", func := "loop.example/vectorpacker/laws.FnPlanEmpty", spec := "fnPlanEmpty", inPlace := ["internal/reflectlite.TypeOf"], unfollowed := true, recurses := true, named := ["loop.example/vectorpacker/impl.errMove"], ifaces := true, apart := false, laid := [("loop.example/vectorpacker/impl.errMove", laid_loop_example_vectorpacker_impl_errMove)], narrowed := true }
def FnPlanEmptyUptoSaid : Prop := fnPlanEmptyUptoRow.holds Tryd.pinned (OpenSpec.upto fnPlanEmptySpec)

/-- 'laws.FnExactMoveDo', WHERE WHAT IT READS IS OF BULK AT MOST 1048576: true; the input reads as it did. -/
def fnExactMoveDoUptoRow : OpenClaim := { program := "ytibpijjigopdjaadoor", sum := "33bff2dcce7e8c0f7c3c71a3239cb676fe41411d6379d82c3959c7d0154b4739", func := "loop.example/vectorpacker/laws.FnExactMoveDo", spec := "fnExactMoveDo", inPlace := ["internal/reflectlite.TypeOf"], unfollowed := true, recurses := true, named := ["loop.example/vectorpacker/impl.errMove"], ifaces := true, apart := false, laid := [("loop.example/vectorpacker/impl.errMove", laid_loop_example_vectorpacker_impl_errMove)], narrowed := true }
def FnExactMoveDoUptoSaid : Prop := fnExactMoveDoUptoRow.holds Tryd.pinned (OpenSpec.upto fnExactMoveDoSpec)

/-- 'laws.FnPlanEnd', WHERE WHAT IT READS IS OF BULK AT MOST 1048576: true; the input reads as it did. -/
def fnPlanEndUptoRow : OpenClaim := { program := "ytibpijjigopdjaadoor", sum := "33bff2dcce7e8c0f7c3c71a3239cb676fe41411d6379d82c3959c7d0154b4739", func := "loop.example/vectorpacker/laws.FnPlanEnd", spec := "fnPlanEnd", inPlace := ["internal/reflectlite.TypeOf"], unfollowed := true, recurses := true, named := ["loop.example/vectorpacker/impl.errMove"], ifaces := true, apart := false, laid := [("loop.example/vectorpacker/impl.errMove", laid_loop_example_vectorpacker_impl_errMove)], narrowed := true }
def FnPlanEndUptoSaid : Prop := fnPlanEndUptoRow.holds Tryd.pinned (OpenSpec.upto fnPlanEndSpec)

/-- 'laws.FnMoveWhen', WHERE WHAT IT READS IS OF BULK AT MOST 1048576: true; the input reads as it did. -/
def fnMoveWhenUptoRow : OpenClaim := { program := "ytibpijjigopdjaadoor", sum := "33bff2dcce7e8c0f7c3c71a3239cb676fe41411d6379d82c3959c7d0154b4739", func := "loop.example/vectorpacker/laws.FnMoveWhen", spec := "fnMoveWhen", inPlace := ["internal/reflectlite.TypeOf"], unfollowed := true, recurses := true, named := ["loop.example/vectorpacker/impl.errMove"], ifaces := true, apart := false, laid := [("loop.example/vectorpacker/impl.errMove", laid_loop_example_vectorpacker_impl_errMove)], narrowed := true }
def FnMoveWhenUptoSaid : Prop := fnMoveWhenUptoRow.holds Tryd.pinned (OpenSpec.upto fnMoveWhenSpec)

/-- 'laws.FnMoves', WHERE WHAT IT READS IS OF BULK AT MOST 1048576: true; the input reads as it did. -/
def fnMovesUptoRow : OpenClaim := { program := "ytibpijjigopdjaadoor", sum := "33bff2dcce7e8c0f7c3c71a3239cb676fe41411d6379d82c3959c7d0154b4739", func := "loop.example/vectorpacker/laws.FnMoves", spec := "fnMoves", inPlace := ["internal/reflectlite.TypeOf"], unfollowed := true, recurses := true, named := ["loop.example/vectorpacker/impl.errMove"], ifaces := true, apart := false, laid := [("loop.example/vectorpacker/impl.errMove", laid_loop_example_vectorpacker_impl_errMove)], narrowed := true }
def FnMovesUptoSaid : Prop := fnMovesUptoRow.holds Tryd.pinned (OpenSpec.upto fnMovesSpec)

/-- 'laws.FnMovesStop', WHERE WHAT IT READS IS OF BULK AT MOST 1048576: true; the input reads as it did. -/
def fnMovesStopUptoRow : OpenClaim := { program := "ytibpijjigopdjaadoor", sum := "33bff2dcce7e8c0f7c3c71a3239cb676fe41411d6379d82c3959c7d0154b4739", func := "loop.example/vectorpacker/laws.FnMovesStop", spec := "fnMovesStop", inPlace := ["internal/reflectlite.TypeOf"], unfollowed := true, recurses := true, named := ["loop.example/vectorpacker/impl.errMove"], ifaces := true, apart := false, laid := [("loop.example/vectorpacker/impl.errMove", laid_loop_example_vectorpacker_impl_errMove)], narrowed := true }
def FnMovesStopUptoSaid : Prop := fnMovesStopUptoRow.holds Tryd.pinned (OpenSpec.upto fnMovesStopSpec)

/-- 'laws.FnExactGatherPlan', WHERE WHAT IT READS IS OF BULK AT MOST 1048576: true; the input reads as it did. -/
def fnExactGatherPlanUptoRow : OpenClaim := { program := "ytibpijjigopdjaadoor", sum := "33bff2dcce7e8c0f7c3c71a3239cb676fe41411d6379d82c3959c7d0154b4739", func := "loop.example/vectorpacker/laws.FnExactGatherPlan", spec := "fnExactGatherPlan", unfollowed := true, recurses := true, named := ["loop.example/vectorpacker/impl.errMove"], ifaces := true, apart := false, laid := [("loop.example/vectorpacker/impl.errMove", laid_loop_example_vectorpacker_impl_errMove)], narrowed := true }
def FnExactGatherPlanUptoSaid : Prop := fnExactGatherPlanUptoRow.holds Tryd.pinned (OpenSpec.upto fnExactGatherPlanSpec)

/-- 'laws.FnExactMovesDo', WHERE WHAT IT READS IS OF BULK AT MOST 1048576: true; the input reads as it did. -/
def fnExactMovesDoUptoRow : OpenClaim := { program := "ytibpijjigopdjaadoor", sum := "33bff2dcce7e8c0f7c3c71a3239cb676fe41411d6379d82c3959c7d0154b4739", func := "loop.example/vectorpacker/laws.FnExactMovesDo", spec := "fnExactMovesDo", inPlace := ["internal/reflectlite.TypeOf"], unfollowed := true, recurses := true, named := ["loop.example/vectorpacker/impl.errMove"], ifaces := true, apart := false, laid := [("loop.example/vectorpacker/impl.errMove", laid_loop_example_vectorpacker_impl_errMove)], narrowed := true }
def FnExactMovesDoUptoSaid : Prop := fnExactMovesDoUptoRow.holds Tryd.pinned (OpenSpec.upto fnExactMovesDoSpec)

end Rows
end Go.Proofs.YtibpijjigopdjaaDoor
