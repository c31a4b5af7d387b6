/-
  No cell of these rows narrows 'for every input' (looked for: loops, veiled, ifaces, maps, wideKeys, modest, calm, conditions, laid).
  DERIVED. THE GIVEN ROWS OF THIS SEAT. 13 by the template 'for every input the law returns true; each argument reads behind the call as it read before'; 0 by the template 'total and deterministic' (their statements: YtfgibhdglbjadaaGreatTotals.lean).
  GIVEN WITH THE SEED: the statements are not yours to turn. If you find one false, say at which input.
  Laid BY PROGRAM, IN A SANDBOX (cutbox-rows.mjs): the forced cells as the released guide's own fill.sh prints them over the translation af0b242fcdf55380… (all of the seat's roots in one cut). By AI agents, Wed Nov 11 2026. No macro, syntax, notation, axiom, sorry.
-/
import Derived.Test.YtfgibhdglbjadaaGreatChecked
import GoSem.Claim
import GoSem.ClaimJoined
import GoSem.ClaimMapViews
import Derived.JoinedTies
import Derived.KernelRfl
namespace Go.Proofs.YtfgibhdglbjadaaGreat
/- THE CELL 'sum', in the pinned program and in every row, IS THE sha256 OF THE DUMP (.gsa) THAT YtfgibhdglbjadaaGreatProg.lean LOADS. Nothing in Lean hashes anything: it is a label: what it is worth is what the hold of that sum in a sandbox is worth. -/
noncomputable def Tryz.pinned : Pinned := { name := "ytfgibhdglbjadaagreat", sum := "af0b242fcdf55380f471f168a331e6efef44106f786c86ba52e0be9326b91b8a", checked := Tryz.checked }
namespace Rows
def none {H : Type} : Left H := { results := [], args := [] }

/-- 'laws.FnSpareArrive': WHATEVER THE INPUT: true; the input reads as it did. -/
def fnSpareArriveSpec : ChangeSpec := { name := "fnSpareArrive", fn := fun _ => fun
  | [d] => { results := [.lit (.bool true)], args := [d] }
  | _ => none }
def fnSpareArriveRow : OpenClaim := { program := "ytfgibhdglbjadaagreat", sum := "af0b242fcdf55380f471f168a331e6efef44106f786c86ba52e0be9326b91b8a", func := "loop.example/vectorpacker/laws.FnSpareArrive", spec := "fnSpareArrive", inPlace := ["(*internal/sync.Mutex).Lock", "internal/race.Disable", "sync/atomic.CompareAndSwapInt32", "internal/race.Enable", "internal/race.Acquire", "(*internal/sync.Mutex).lockSlow", "internal/sync.runtime_canSpin", "internal/sync.runtime_doSpin", "internal/sync.throw", "internal/sync.runtime_nanotime", "internal/sync.runtime_SemacquireMutex", "sync/atomic.AddInt32", "(*internal/sync.Mutex).Unlock", "internal/race.ReleaseMerge", "(*internal/sync.Mutex).unlockSlow", "internal/sync.fatal", "internal/sync.runtime_Semrelease"], unfollowed := true, recurses := true, apart := false }
def FnSpareArriveSaid : Prop := fnSpareArriveRow.holds Tryz.pinned (OpenSpec.ofChange fnSpareArriveSpec)

/-- ITS FALSE NEIGHBOUR: 'it returns false'. Refute it at one input. -/
def fnSpareArriveWrong : ChangeSpec := { name := "fnSpareArrive", fn := fun _ => fun
  | [d] => { results := [.lit (.bool false)], args := [d] }
  | _ => none }
def FnSpareArriveWrongFalsely : Prop := fnSpareArriveRow.holds Tryz.pinned (OpenSpec.ofChange fnSpareArriveWrong)

/-- 'laws.FnExactClusterArrive': WHATEVER THE INPUT: true; the input reads as it did. -/
def fnExactClusterArriveSpec : ChangeSpec := { name := "fnExactClusterArrive", fn := fun _ => fun
  | [d1, d2, d3] => { results := [.lit (.bool true)], args := [d1, d2, d3] }
  | _ => none }
def fnExactClusterArriveRow : OpenClaim := { program := "ytfgibhdglbjadaagreat", sum := "af0b242fcdf55380f471f168a331e6efef44106f786c86ba52e0be9326b91b8a", func := "loop.example/vectorpacker/laws.FnExactClusterArrive", spec := "fnExactClusterArrive", inPlace := ["(*internal/sync.Mutex).Lock", "internal/race.Disable", "sync/atomic.CompareAndSwapInt32", "internal/race.Enable", "internal/race.Acquire", "(*internal/sync.Mutex).lockSlow", "internal/sync.runtime_canSpin", "internal/sync.runtime_doSpin", "internal/sync.throw", "internal/sync.runtime_nanotime", "internal/sync.runtime_SemacquireMutex", "sync/atomic.AddInt32", "(*internal/sync.Mutex).Unlock", "internal/race.ReleaseMerge", "(*internal/sync.Mutex).unlockSlow", "internal/sync.fatal", "internal/sync.runtime_Semrelease"], unfollowed := true, recurses := true, apart := false }
def FnExactClusterArriveSaid : Prop := fnExactClusterArriveRow.holds Tryz.pinned (OpenSpec.ofChange fnExactClusterArriveSpec)

/-- ITS FALSE NEIGHBOUR: 'it returns false'. Refute it at one input. -/
def fnExactClusterArriveWrong : ChangeSpec := { name := "fnExactClusterArrive", fn := fun _ => fun
  | [d1, d2, d3] => { results := [.lit (.bool false)], args := [d1, d2, d3] }
  | _ => none }
def FnExactClusterArriveWrongFalsely : Prop := fnExactClusterArriveRow.holds Tryz.pinned (OpenSpec.ofChange fnExactClusterArriveWrong)

/-- 'laws.FnDepartNone': WHATEVER THE INPUT: true; the input reads as it did. -/
def fnDepartNoneSpec : ChangeSpec := { name := "fnDepartNone", fn := fun _ => fun
  | [d] => { results := [.lit (.bool true)], args := [d] }
  | _ => none }
def fnDepartNoneRow : OpenClaim := { program := "ytfgibhdglbjadaagreat", sum := "af0b242fcdf55380f471f168a331e6efef44106f786c86ba52e0be9326b91b8a", func := "loop.example/vectorpacker/laws.FnDepartNone", spec := "fnDepartNone", inPlace := ["(*internal/sync.Mutex).Lock", "internal/race.Disable", "sync/atomic.CompareAndSwapInt32", "internal/race.Enable", "internal/race.Acquire", "(*internal/sync.Mutex).lockSlow", "internal/sync.runtime_canSpin", "internal/sync.runtime_doSpin", "internal/sync.throw", "internal/sync.runtime_nanotime", "internal/sync.runtime_SemacquireMutex", "sync/atomic.AddInt32", "(*internal/sync.Mutex).Unlock", "internal/race.ReleaseMerge", "(*internal/sync.Mutex).unlockSlow", "internal/sync.fatal", "internal/sync.runtime_Semrelease"], unfollowed := true, recurses := true, apart := false }
def FnDepartNoneSaid : Prop := fnDepartNoneRow.holds Tryz.pinned (OpenSpec.ofChange fnDepartNoneSpec)

/-- ITS FALSE NEIGHBOUR: 'it returns false'. Refute it at one input. -/
def fnDepartNoneWrong : ChangeSpec := { name := "fnDepartNone", fn := fun _ => fun
  | [d] => { results := [.lit (.bool false)], args := [d] }
  | _ => none }
def FnDepartNoneWrongFalsely : Prop := fnDepartNoneRow.holds Tryz.pinned (OpenSpec.ofChange fnDepartNoneWrong)

/-- 'laws.FnDepartWhere': WHATEVER THE INPUT: true; the input reads as it did. -/
def fnDepartWhereSpec : ChangeSpec := { name := "fnDepartWhere", fn := fun _ => fun
  | [d] => { results := [.lit (.bool true)], args := [d] }
  | _ => none }
def fnDepartWhereRow : OpenClaim := { program := "ytfgibhdglbjadaagreat", sum := "af0b242fcdf55380f471f168a331e6efef44106f786c86ba52e0be9326b91b8a", func := "loop.example/vectorpacker/laws.FnDepartWhere", spec := "fnDepartWhere", inPlace := ["(*internal/sync.Mutex).Lock", "internal/race.Disable", "sync/atomic.CompareAndSwapInt32", "internal/race.Enable", "internal/race.Acquire", "(*internal/sync.Mutex).lockSlow", "internal/sync.runtime_canSpin", "internal/sync.runtime_doSpin", "internal/sync.throw", "internal/sync.runtime_nanotime", "internal/sync.runtime_SemacquireMutex", "sync/atomic.AddInt32", "(*internal/sync.Mutex).Unlock", "internal/race.ReleaseMerge", "(*internal/sync.Mutex).unlockSlow", "internal/sync.fatal", "internal/sync.runtime_Semrelease"], unfollowed := true, recurses := true, apart := false }
def FnDepartWhereSaid : Prop := fnDepartWhereRow.holds Tryz.pinned (OpenSpec.ofChange fnDepartWhereSpec)

/-- ITS FALSE NEIGHBOUR: 'it returns false'. Refute it at one input. -/
def fnDepartWhereWrong : ChangeSpec := { name := "fnDepartWhere", fn := fun _ => fun
  | [d] => { results := [.lit (.bool false)], args := [d] }
  | _ => none }
def FnDepartWhereWrongFalsely : Prop := fnDepartWhereRow.holds Tryz.pinned (OpenSpec.ofChange fnDepartWhereWrong)

/-- 'laws.FnDepart': WHATEVER THE INPUT: true; the input reads as it did. -/
def fnDepartSpec : ChangeSpec := { name := "fnDepart", fn := fun _ => fun
  | [d] => { results := [.lit (.bool true)], args := [d] }
  | _ => none }
def fnDepartRow : OpenClaim := { program := "ytfgibhdglbjadaagreat", sum := "af0b242fcdf55380f471f168a331e6efef44106f786c86ba52e0be9326b91b8a", func := "loop.example/vectorpacker/laws.FnDepart", spec := "fnDepart", inPlace := ["(*internal/sync.Mutex).Lock", "internal/race.Disable", "sync/atomic.CompareAndSwapInt32", "internal/race.Enable", "internal/race.Acquire", "(*internal/sync.Mutex).lockSlow", "internal/sync.runtime_canSpin", "internal/sync.runtime_doSpin", "internal/sync.throw", "internal/sync.runtime_nanotime", "internal/sync.runtime_SemacquireMutex", "sync/atomic.AddInt32", "(*internal/sync.Mutex).Unlock", "internal/race.ReleaseMerge", "(*internal/sync.Mutex).unlockSlow", "internal/sync.fatal", "internal/sync.runtime_Semrelease"], unfollowed := true, recurses := true, apart := false }
def FnDepartSaid : Prop := fnDepartRow.holds Tryz.pinned (OpenSpec.ofChange fnDepartSpec)

/-- ITS FALSE NEIGHBOUR: 'it returns false'. Refute it at one input. -/
def fnDepartWrong : ChangeSpec := { name := "fnDepart", fn := fun _ => fun
  | [d] => { results := [.lit (.bool false)], args := [d] }
  | _ => none }
def FnDepartWrongFalsely : Prop := fnDepartRow.holds Tryz.pinned (OpenSpec.ofChange fnDepartWrong)

/-- 'laws.FnArriveCode': WHATEVER THE INPUT: true; the input reads as it did. -/
def fnArriveCodeSpec : ChangeSpec := { name := "fnArriveCode", fn := fun _ => fun
  | [d] => { results := [.lit (.bool true)], args := [d] }
  | _ => none }
def fnArriveCodeRow : OpenClaim := { program := "ytfgibhdglbjadaagreat", sum := "af0b242fcdf55380f471f168a331e6efef44106f786c86ba52e0be9326b91b8a", func := "loop.example/vectorpacker/laws.FnArriveCode", spec := "fnArriveCode", inPlace := ["(*internal/sync.Mutex).Lock", "internal/race.Disable", "sync/atomic.CompareAndSwapInt32", "internal/race.Enable", "internal/race.Acquire", "(*internal/sync.Mutex).lockSlow", "internal/sync.runtime_canSpin", "internal/sync.runtime_doSpin", "internal/sync.throw", "internal/sync.runtime_nanotime", "internal/sync.runtime_SemacquireMutex", "sync/atomic.AddInt32", "(*internal/sync.Mutex).Unlock", "internal/race.ReleaseMerge", "(*internal/sync.Mutex).unlockSlow", "internal/sync.fatal", "internal/sync.runtime_Semrelease"], unfollowed := true, recurses := true, apart := false }
def FnArriveCodeSaid : Prop := fnArriveCodeRow.holds Tryz.pinned (OpenSpec.ofChange fnArriveCodeSpec)

/-- ITS FALSE NEIGHBOUR: 'it returns false'. Refute it at one input. -/
def fnArriveCodeWrong : ChangeSpec := { name := "fnArriveCode", fn := fun _ => fun
  | [d] => { results := [.lit (.bool false)], args := [d] }
  | _ => none }
def FnArriveCodeWrongFalsely : Prop := fnArriveCodeRow.holds Tryz.pinned (OpenSpec.ofChange fnArriveCodeWrong)

/-- 'laws.FnArriveWhere': WHATEVER THE INPUT: true; the input reads as it did. -/
def fnArriveWhereSpec : ChangeSpec := { name := "fnArriveWhere", fn := fun _ => fun
  | [d] => { results := [.lit (.bool true)], args := [d] }
  | _ => none }
def fnArriveWhereRow : OpenClaim := { program := "ytfgibhdglbjadaagreat", sum := "af0b242fcdf55380f471f168a331e6efef44106f786c86ba52e0be9326b91b8a", func := "loop.example/vectorpacker/laws.FnArriveWhere", spec := "fnArriveWhere", inPlace := ["(*internal/sync.Mutex).Lock", "internal/race.Disable", "sync/atomic.CompareAndSwapInt32", "internal/race.Enable", "internal/race.Acquire", "(*internal/sync.Mutex).lockSlow", "internal/sync.runtime_canSpin", "internal/sync.runtime_doSpin", "internal/sync.throw", "internal/sync.runtime_nanotime", "internal/sync.runtime_SemacquireMutex", "sync/atomic.AddInt32", "(*internal/sync.Mutex).Unlock", "internal/race.ReleaseMerge", "(*internal/sync.Mutex).unlockSlow", "internal/sync.fatal", "internal/sync.runtime_Semrelease"], unfollowed := true, recurses := true, apart := false }
def FnArriveWhereSaid : Prop := fnArriveWhereRow.holds Tryz.pinned (OpenSpec.ofChange fnArriveWhereSpec)

/-- ITS FALSE NEIGHBOUR: 'it returns false'. Refute it at one input. -/
def fnArriveWhereWrong : ChangeSpec := { name := "fnArriveWhere", fn := fun _ => fun
  | [d] => { results := [.lit (.bool false)], args := [d] }
  | _ => none }
def FnArriveWhereWrongFalsely : Prop := fnArriveWhereRow.holds Tryz.pinned (OpenSpec.ofChange fnArriveWhereWrong)

/-- 'laws.FnArrive': WHATEVER THE INPUT: true; the input reads as it did. -/
def fnArriveSpec : ChangeSpec := { name := "fnArrive", fn := fun _ => fun
  | [d] => { results := [.lit (.bool true)], args := [d] }
  | _ => none }
def fnArriveRow : OpenClaim := { program := "ytfgibhdglbjadaagreat", sum := "af0b242fcdf55380f471f168a331e6efef44106f786c86ba52e0be9326b91b8a", func := "loop.example/vectorpacker/laws.FnArrive", spec := "fnArrive", inPlace := ["(*internal/sync.Mutex).Lock", "internal/race.Disable", "sync/atomic.CompareAndSwapInt32", "internal/race.Enable", "internal/race.Acquire", "(*internal/sync.Mutex).lockSlow", "internal/sync.runtime_canSpin", "internal/sync.runtime_doSpin", "internal/sync.throw", "internal/sync.runtime_nanotime", "internal/sync.runtime_SemacquireMutex", "sync/atomic.AddInt32", "(*internal/sync.Mutex).Unlock", "internal/race.ReleaseMerge", "(*internal/sync.Mutex).unlockSlow", "internal/sync.fatal", "internal/sync.runtime_Semrelease"], unfollowed := true, recurses := true, apart := false }
def FnArriveSaid : Prop := fnArriveRow.holds Tryz.pinned (OpenSpec.ofChange fnArriveSpec)

/-- ITS FALSE NEIGHBOUR: 'it returns false'. Refute it at one input. -/
def fnArriveWrong : ChangeSpec := { name := "fnArrive", fn := fun _ => fun
  | [d] => { results := [.lit (.bool false)], args := [d] }
  | _ => none }
def FnArriveWrongFalsely : Prop := fnArriveRow.holds Tryz.pinned (OpenSpec.ofChange fnArriveWrong)

/-- 'laws.FnExactClusterDepart': WHATEVER THE INPUT: true; the input reads as it did. -/
def fnExactClusterDepartSpec : ChangeSpec := { name := "fnExactClusterDepart", fn := fun _ => fun
  | [d1, d2] => { results := [.lit (.bool true)], args := [d1, d2] }
  | _ => none }
def fnExactClusterDepartRow : OpenClaim := { program := "ytfgibhdglbjadaagreat", sum := "af0b242fcdf55380f471f168a331e6efef44106f786c86ba52e0be9326b91b8a", func := "loop.example/vectorpacker/laws.FnExactClusterDepart", spec := "fnExactClusterDepart", inPlace := ["(*internal/sync.Mutex).Lock", "internal/race.Disable", "sync/atomic.CompareAndSwapInt32", "internal/race.Enable", "internal/race.Acquire", "(*internal/sync.Mutex).lockSlow", "internal/sync.runtime_canSpin", "internal/sync.runtime_doSpin", "internal/sync.throw", "internal/sync.runtime_nanotime", "internal/sync.runtime_SemacquireMutex", "sync/atomic.AddInt32", "(*internal/sync.Mutex).Unlock", "internal/race.ReleaseMerge", "(*internal/sync.Mutex).unlockSlow", "internal/sync.fatal", "internal/sync.runtime_Semrelease"], unfollowed := true, recurses := true, apart := false }
def FnExactClusterDepartSaid : Prop := fnExactClusterDepartRow.holds Tryz.pinned (OpenSpec.ofChange fnExactClusterDepartSpec)

/-- ITS FALSE NEIGHBOUR: 'it returns false'. Refute it at one input. -/
def fnExactClusterDepartWrong : ChangeSpec := { name := "fnExactClusterDepart", fn := fun _ => fun
  | [d1, d2] => { results := [.lit (.bool false)], args := [d1, d2] }
  | _ => none }
def FnExactClusterDepartWrongFalsely : Prop := fnExactClusterDepartRow.holds Tryz.pinned (OpenSpec.ofChange fnExactClusterDepartWrong)

/-- 'laws.FnArriveDepart': WHATEVER THE INPUT: true; the input reads as it did. -/
def fnArriveDepartSpec : ChangeSpec := { name := "fnArriveDepart", fn := fun _ => fun
  | [d] => { results := [.lit (.bool true)], args := [d] }
  | _ => none }
def fnArriveDepartRow : OpenClaim := { program := "ytfgibhdglbjadaagreat", sum := "af0b242fcdf55380f471f168a331e6efef44106f786c86ba52e0be9326b91b8a", func := "loop.example/vectorpacker/laws.FnArriveDepart", spec := "fnArriveDepart", inPlace := ["(*internal/sync.Mutex).Lock", "internal/race.Disable", "sync/atomic.CompareAndSwapInt32", "internal/race.Enable", "internal/race.Acquire", "(*internal/sync.Mutex).lockSlow", "internal/sync.runtime_canSpin", "internal/sync.runtime_doSpin", "internal/sync.throw", "internal/sync.runtime_nanotime", "internal/sync.runtime_SemacquireMutex", "sync/atomic.AddInt32", "(*internal/sync.Mutex).Unlock", "internal/race.ReleaseMerge", "(*internal/sync.Mutex).unlockSlow", "internal/sync.fatal", "internal/sync.runtime_Semrelease"], unfollowed := true, recurses := true, apart := false }
def FnArriveDepartSaid : Prop := fnArriveDepartRow.holds Tryz.pinned (OpenSpec.ofChange fnArriveDepartSpec)

/-- ITS FALSE NEIGHBOUR: 'it returns false'. Refute it at one input. -/
def fnArriveDepartWrong : ChangeSpec := { name := "fnArriveDepart", fn := fun _ => fun
  | [d] => { results := [.lit (.bool false)], args := [d] }
  | _ => none }
def FnArriveDepartWrongFalsely : Prop := fnArriveDepartRow.holds Tryz.pinned (OpenSpec.ofChange fnArriveDepartWrong)

/-- 'laws.FnScaleOut': WHATEVER THE INPUT: true; the input reads as it did. -/
def fnScaleOutSpec : ChangeSpec := { name := "fnScaleOut", fn := fun _ => fun
  | [d] => { results := [.lit (.bool true)], args := [d] }
  | _ => none }
def fnScaleOutRow : OpenClaim := { program := "ytfgibhdglbjadaagreat", sum := "af0b242fcdf55380f471f168a331e6efef44106f786c86ba52e0be9326b91b8a", func := "loop.example/vectorpacker/laws.FnScaleOut", spec := "fnScaleOut", inPlace := ["(*internal/sync.Mutex).Lock", "internal/race.Disable", "sync/atomic.CompareAndSwapInt32", "internal/race.Enable", "internal/race.Acquire", "(*internal/sync.Mutex).lockSlow", "internal/sync.runtime_canSpin", "internal/sync.runtime_doSpin", "internal/sync.throw", "internal/sync.runtime_nanotime", "internal/sync.runtime_SemacquireMutex", "sync/atomic.AddInt32", "(*internal/sync.Mutex).Unlock", "internal/race.ReleaseMerge", "(*internal/sync.Mutex).unlockSlow", "internal/sync.fatal", "internal/sync.runtime_Semrelease"], unfollowed := true, recurses := true, apart := false }
def FnScaleOutSaid : Prop := fnScaleOutRow.holds Tryz.pinned (OpenSpec.ofChange fnScaleOutSpec)

/-- ITS FALSE NEIGHBOUR: 'it returns false'. Refute it at one input. -/
def fnScaleOutWrong : ChangeSpec := { name := "fnScaleOut", fn := fun _ => fun
  | [d] => { results := [.lit (.bool false)], args := [d] }
  | _ => none }
def FnScaleOutWrongFalsely : Prop := fnScaleOutRow.holds Tryz.pinned (OpenSpec.ofChange fnScaleOutWrong)

/-- 'laws.FnScaleIn': WHATEVER THE INPUT: true; the input reads as it did. -/
def fnScaleInSpec : ChangeSpec := { name := "fnScaleIn", fn := fun _ => fun
  | [d] => { results := [.lit (.bool true)], args := [d] }
  | _ => none }
def fnScaleInRow : OpenClaim := { program := "ytfgibhdglbjadaagreat", sum := "af0b242fcdf55380f471f168a331e6efef44106f786c86ba52e0be9326b91b8a", func := "loop.example/vectorpacker/laws.FnScaleIn", spec := "fnScaleIn", inPlace := ["(*internal/sync.Mutex).Lock", "internal/race.Disable", "sync/atomic.CompareAndSwapInt32", "internal/race.Enable", "internal/race.Acquire", "(*internal/sync.Mutex).lockSlow", "internal/sync.runtime_canSpin", "internal/sync.runtime_doSpin", "internal/sync.throw", "internal/sync.runtime_nanotime", "internal/sync.runtime_SemacquireMutex", "sync/atomic.AddInt32", "(*internal/sync.Mutex).Unlock", "internal/race.ReleaseMerge", "(*internal/sync.Mutex).unlockSlow", "internal/sync.fatal", "internal/sync.runtime_Semrelease"], unfollowed := true, recurses := true, apart := false }
def FnScaleInSaid : Prop := fnScaleInRow.holds Tryz.pinned (OpenSpec.ofChange fnScaleInSpec)

/-- ITS FALSE NEIGHBOUR: 'it returns false'. Refute it at one input. -/
def fnScaleInWrong : ChangeSpec := { name := "fnScaleIn", fn := fun _ => fun
  | [d] => { results := [.lit (.bool false)], args := [d] }
  | _ => none }
def FnScaleInWrongFalsely : Prop := fnScaleInRow.holds Tryz.pinned (OpenSpec.ofChange fnScaleInWrong)

/-- 'laws.FnScaleInAll': WHATEVER THE INPUT: true; the input reads as it did. -/
def fnScaleInAllSpec : ChangeSpec := { name := "fnScaleInAll", fn := fun _ => fun
  | [d] => { results := [.lit (.bool true)], args := [d] }
  | _ => none }
def fnScaleInAllRow : OpenClaim := { program := "ytfgibhdglbjadaagreat", sum := "af0b242fcdf55380f471f168a331e6efef44106f786c86ba52e0be9326b91b8a", func := "loop.example/vectorpacker/laws.FnScaleInAll", spec := "fnScaleInAll", inPlace := ["(*internal/sync.Mutex).Lock", "internal/race.Disable", "sync/atomic.CompareAndSwapInt32", "internal/race.Enable", "internal/race.Acquire", "(*internal/sync.Mutex).lockSlow", "internal/sync.runtime_canSpin", "internal/sync.runtime_doSpin", "internal/sync.throw", "internal/sync.runtime_nanotime", "internal/sync.runtime_SemacquireMutex", "sync/atomic.AddInt32", "(*internal/sync.Mutex).Unlock", "internal/race.ReleaseMerge", "(*internal/sync.Mutex).unlockSlow", "internal/sync.fatal", "internal/sync.runtime_Semrelease"], unfollowed := true, recurses := true, apart := false }
def FnScaleInAllSaid : Prop := fnScaleInAllRow.holds Tryz.pinned (OpenSpec.ofChange fnScaleInAllSpec)

/-- ITS FALSE NEIGHBOUR: 'it returns false'. Refute it at one input. -/
def fnScaleInAllWrong : ChangeSpec := { name := "fnScaleInAll", fn := fun _ => fun
  | [d] => { results := [.lit (.bool false)], args := [d] }
  | _ => none }
def FnScaleInAllWrongFalsely : Prop := fnScaleInAllRow.holds Tryz.pinned (OpenSpec.ofChange fnScaleInAllWrong)

/- THE SECOND FORM. 'bulk': how many values and letters a reading holds, each counted each time it is reached (what is shared counts as often as it is met; a slice's spare places count too). A statement '..UptoSaid' is the law's where the arguments, and the package variables that the reading takes, are together of bulk at most 1048576: NARROWER than '..Said'. Prove '..Said' where nothing that the law and all that it calls make is longer than what came in: it says more and counts as full. Else prove '..UptoSaid'. A law counts once. -/
mutual
def uptoBulk {H : Type} : DataW H → Nat
  | .lit (.string bytes) => bytes.length + 1
  | .lit _ => 1
  | .nil => 1
  | .ptr d => uptoBulk d + 1
  | .slice elems spare => uptoBulkAll elems + uptoBulkAll spare + 1
  | .agg parts => uptoBulkAll parts + 1
  | .iface _ d => uptoBulk d + 1
  | .map entries => uptoBulkEntries entries + 1
  | .held _ => 1
def uptoBulkAll {H : Type} : List (DataW H) → Nat
  | [] => 0
  | d :: r => uptoBulk d + uptoBulkAll r
def uptoBulkEntries {H : Type} : List (Lit × DataW H) → Nat
  | [] => 0
  | x :: r => uptoBulkEntry x + uptoBulkEntries r
def uptoBulkEntry {H : Type} : Lit × DataW H → Nat
  | (.string bytes, d) => bytes.length + uptoBulk d + 1
  | (_, d) => uptoBulk d + 1
 end
def uptoSmall : (H : Type) → List (DataW H) → Bool := fun _ ds => decide (uptoBulkAll ds ≤ 1048576)
def OpenSpec.upto (s : _root_.Go.ChangeSpec) : _root_.Go.OpenSpec := { _root_.Go.OpenSpec.ofChange s with cond := some uptoSmall }

/-- 'laws.FnSpareArrive', WHERE WHAT IT READS IS OF BULK AT MOST 1048576: true; the input reads as it did. -/
def fnSpareArriveUptoRow : OpenClaim := { program := "ytfgibhdglbjadaagreat", sum := "af0b242fcdf55380f471f168a331e6efef44106f786c86ba52e0be9326b91b8a", func := "loop.example/vectorpacker/laws.FnSpareArrive", spec := "fnSpareArrive", inPlace := ["(*internal/sync.Mutex).Lock", "internal/race.Disable", "sync/atomic.CompareAndSwapInt32", "internal/race.Enable", "internal/race.Acquire", "(*internal/sync.Mutex).lockSlow", "internal/sync.runtime_canSpin", "internal/sync.runtime_doSpin", "internal/sync.throw", "internal/sync.runtime_nanotime", "internal/sync.runtime_SemacquireMutex", "sync/atomic.AddInt32", "(*internal/sync.Mutex).Unlock", "internal/race.ReleaseMerge", "(*internal/sync.Mutex).unlockSlow", "internal/sync.fatal", "internal/sync.runtime_Semrelease"], unfollowed := true, recurses := true, apart := false, narrowed := true }
def FnSpareArriveUptoSaid : Prop := fnSpareArriveUptoRow.holds Tryz.pinned (OpenSpec.upto fnSpareArriveSpec)

/-- 'laws.FnExactClusterArrive', WHERE WHAT IT READS IS OF BULK AT MOST 1048576: true; the input reads as it did. -/
def fnExactClusterArriveUptoRow : OpenClaim := { program := "ytfgibhdglbjadaagreat", sum := "af0b242fcdf55380f471f168a331e6efef44106f786c86ba52e0be9326b91b8a", func := "loop.example/vectorpacker/laws.FnExactClusterArrive", spec := "fnExactClusterArrive", inPlace := ["(*internal/sync.Mutex).Lock", "internal/race.Disable", "sync/atomic.CompareAndSwapInt32", "internal/race.Enable", "internal/race.Acquire", "(*internal/sync.Mutex).lockSlow", "internal/sync.runtime_canSpin", "internal/sync.runtime_doSpin", "internal/sync.throw", "internal/sync.runtime_nanotime", "internal/sync.runtime_SemacquireMutex", "sync/atomic.AddInt32", "(*internal/sync.Mutex).Unlock", "internal/race.ReleaseMerge", "(*internal/sync.Mutex).unlockSlow", "internal/sync.fatal", "internal/sync.runtime_Semrelease"], unfollowed := true, recurses := true, apart := false, narrowed := true }
def FnExactClusterArriveUptoSaid : Prop := fnExactClusterArriveUptoRow.holds Tryz.pinned (OpenSpec.upto fnExactClusterArriveSpec)

/-- 'laws.FnDepartNone', WHERE WHAT IT READS IS OF BULK AT MOST 1048576: true; the input reads as it did. -/
def fnDepartNoneUptoRow : OpenClaim := { program := "ytfgibhdglbjadaagreat", sum := "af0b242fcdf55380f471f168a331e6efef44106f786c86ba52e0be9326b91b8a", func := "loop.example/vectorpacker/laws.FnDepartNone", spec := "fnDepartNone", inPlace := ["(*internal/sync.Mutex).Lock", "internal/race.Disable", "sync/atomic.CompareAndSwapInt32", "internal/race.Enable", "internal/race.Acquire", "(*internal/sync.Mutex).lockSlow", "internal/sync.runtime_canSpin", "internal/sync.runtime_doSpin", "internal/sync.throw", "internal/sync.runtime_nanotime", "internal/sync.runtime_SemacquireMutex", "sync/atomic.AddInt32", "(*internal/sync.Mutex).Unlock", "internal/race.ReleaseMerge", "(*internal/sync.Mutex).unlockSlow", "internal/sync.fatal", "internal/sync.runtime_Semrelease"], unfollowed := true, recurses := true, apart := false, narrowed := true }
def FnDepartNoneUptoSaid : Prop := fnDepartNoneUptoRow.holds Tryz.pinned (OpenSpec.upto fnDepartNoneSpec)

/-- 'laws.FnDepartWhere', WHERE WHAT IT READS IS OF BULK AT MOST 1048576: true; the input reads as it did. -/
def fnDepartWhereUptoRow : OpenClaim := { program := "ytfgibhdglbjadaagreat", sum := "af0b242fcdf55380f471f168a331e6efef44106f786c86ba52e0be9326b91b8a", func := "loop.example/vectorpacker/laws.FnDepartWhere", spec := "fnDepartWhere", inPlace := ["(*internal/sync.Mutex).Lock", "internal/race.Disable", "sync/atomic.CompareAndSwapInt32", "internal/race.Enable", "internal/race.Acquire", "(*internal/sync.Mutex).lockSlow", "internal/sync.runtime_canSpin", "internal/sync.runtime_doSpin", "internal/sync.throw", "internal/sync.runtime_nanotime", "internal/sync.runtime_SemacquireMutex", "sync/atomic.AddInt32", "(*internal/sync.Mutex).Unlock", "internal/race.ReleaseMerge", "(*internal/sync.Mutex).unlockSlow", "internal/sync.fatal", "internal/sync.runtime_Semrelease"], unfollowed := true, recurses := true, apart := false, narrowed := true }
def FnDepartWhereUptoSaid : Prop := fnDepartWhereUptoRow.holds Tryz.pinned (OpenSpec.upto fnDepartWhereSpec)

/-- 'laws.FnDepart', WHERE WHAT IT READS IS OF BULK AT MOST 1048576: true; the input reads as it did. -/
def fnDepartUptoRow : OpenClaim := { program := "ytfgibhdglbjadaagreat", sum := "af0b242fcdf55380f471f168a331e6efef44106f786c86ba52e0be9326b91b8a", func := "loop.example/vectorpacker/laws.FnDepart", spec := "fnDepart", inPlace := ["(*internal/sync.Mutex).Lock", "internal/race.Disable", "sync/atomic.CompareAndSwapInt32", "internal/race.Enable", "internal/race.Acquire", "(*internal/sync.Mutex).lockSlow", "internal/sync.runtime_canSpin", "internal/sync.runtime_doSpin", "internal/sync.throw", "internal/sync.runtime_nanotime", "internal/sync.runtime_SemacquireMutex", "sync/atomic.AddInt32", "(*internal/sync.Mutex).Unlock", "internal/race.ReleaseMerge", "(*internal/sync.Mutex).unlockSlow", "internal/sync.fatal", "internal/sync.runtime_Semrelease"], unfollowed := true, recurses := true, apart := false, narrowed := true }
def FnDepartUptoSaid : Prop := fnDepartUptoRow.holds Tryz.pinned (OpenSpec.upto fnDepartSpec)

/-- 'laws.FnArriveCode', WHERE WHAT IT READS IS OF BULK AT MOST 1048576: true; the input reads as it did. -/
def fnArriveCodeUptoRow : OpenClaim := { program := "ytfgibhdglbjadaagreat", sum := "af0b242fcdf55380f471f168a331e6efef44106f786c86ba52e0be9326b91b8a", func := "loop.example/vectorpacker/laws.FnArriveCode", spec := "fnArriveCode", inPlace := ["(*internal/sync.Mutex).Lock", "internal/race.Disable", "sync/atomic.CompareAndSwapInt32", "internal/race.Enable", "internal/race.Acquire", "(*internal/sync.Mutex).lockSlow", "internal/sync.runtime_canSpin", "internal/sync.runtime_doSpin", "internal/sync.throw", "internal/sync.runtime_nanotime", "internal/sync.runtime_SemacquireMutex", "sync/atomic.AddInt32", "(*internal/sync.Mutex).Unlock", "internal/race.ReleaseMerge", "(*internal/sync.Mutex).unlockSlow", "internal/sync.fatal", "internal/sync.runtime_Semrelease"], unfollowed := true, recurses := true, apart := false, narrowed := true }
def FnArriveCodeUptoSaid : Prop := fnArriveCodeUptoRow.holds Tryz.pinned (OpenSpec.upto fnArriveCodeSpec)

/-- 'laws.FnArriveWhere', WHERE WHAT IT READS IS OF BULK AT MOST 1048576: true; the input reads as it did. -/
def fnArriveWhereUptoRow : OpenClaim := { program := "ytfgibhdglbjadaagreat", sum := "af0b242fcdf55380f471f168a331e6efef44106f786c86ba52e0be9326b91b8a", func := "loop.example/vectorpacker/laws.FnArriveWhere", spec := "fnArriveWhere", inPlace := ["(*internal/sync.Mutex).Lock", "internal/race.Disable", "sync/atomic.CompareAndSwapInt32", "internal/race.Enable", "internal/race.Acquire", "(*internal/sync.Mutex).lockSlow", "internal/sync.runtime_canSpin", "internal/sync.runtime_doSpin", "internal/sync.throw", "internal/sync.runtime_nanotime", "internal/sync.runtime_SemacquireMutex", "sync/atomic.AddInt32", "(*internal/sync.Mutex).Unlock", "internal/race.ReleaseMerge", "(*internal/sync.Mutex).unlockSlow", "internal/sync.fatal", "internal/sync.runtime_Semrelease"], unfollowed := true, recurses := true, apart := false, narrowed := true }
def FnArriveWhereUptoSaid : Prop := fnArriveWhereUptoRow.holds Tryz.pinned (OpenSpec.upto fnArriveWhereSpec)

/-- 'laws.FnArrive', WHERE WHAT IT READS IS OF BULK AT MOST 1048576: true; the input reads as it did. -/
def fnArriveUptoRow : OpenClaim := { program := "ytfgibhdglbjadaagreat", sum := "af0b242fcdf55380f471f168a331e6efef44106f786c86ba52e0be9326b91b8a", func := "loop.example/vectorpacker/laws.FnArrive", spec := "fnArrive", inPlace := ["(*internal/sync.Mutex).Lock", "internal/race.Disable", "sync/atomic.CompareAndSwapInt32", "internal/race.Enable", "internal/race.Acquire", "(*internal/sync.Mutex).lockSlow", "internal/sync.runtime_canSpin", "internal/sync.runtime_doSpin", "internal/sync.throw", "internal/sync.runtime_nanotime", "internal/sync.runtime_SemacquireMutex", "sync/atomic.AddInt32", "(*internal/sync.Mutex).Unlock", "internal/race.ReleaseMerge", "(*internal/sync.Mutex).unlockSlow", "internal/sync.fatal", "internal/sync.runtime_Semrelease"], unfollowed := true, recurses := true, apart := false, narrowed := true }
def FnArriveUptoSaid : Prop := fnArriveUptoRow.holds Tryz.pinned (OpenSpec.upto fnArriveSpec)

/-- 'laws.FnExactClusterDepart', WHERE WHAT IT READS IS OF BULK AT MOST 1048576: true; the input reads as it did. -/
def fnExactClusterDepartUptoRow : OpenClaim := { program := "ytfgibhdglbjadaagreat", sum := "af0b242fcdf55380f471f168a331e6efef44106f786c86ba52e0be9326b91b8a", func := "loop.example/vectorpacker/laws.FnExactClusterDepart", spec := "fnExactClusterDepart", inPlace := ["(*internal/sync.Mutex).Lock", "internal/race.Disable", "sync/atomic.CompareAndSwapInt32", "internal/race.Enable", "internal/race.Acquire", "(*internal/sync.Mutex).lockSlow", "internal/sync.runtime_canSpin", "internal/sync.runtime_doSpin", "internal/sync.throw", "internal/sync.runtime_nanotime", "internal/sync.runtime_SemacquireMutex", "sync/atomic.AddInt32", "(*internal/sync.Mutex).Unlock", "internal/race.ReleaseMerge", "(*internal/sync.Mutex).unlockSlow", "internal/sync.fatal", "internal/sync.runtime_Semrelease"], unfollowed := true, recurses := true, apart := false, narrowed := true }
def FnExactClusterDepartUptoSaid : Prop := fnExactClusterDepartUptoRow.holds Tryz.pinned (OpenSpec.upto fnExactClusterDepartSpec)

/-- 'laws.FnArriveDepart', WHERE WHAT IT READS IS OF BULK AT MOST 1048576: true; the input reads as it did. -/
def fnArriveDepartUptoRow : OpenClaim := { program := "ytfgibhdglbjadaagreat", sum := "af0b242fcdf55380f471f168a331e6efef44106f786c86ba52e0be9326b91b8a", func := "loop.example/vectorpacker/laws.FnArriveDepart", spec := "fnArriveDepart", inPlace := ["(*internal/sync.Mutex).Lock", "internal/race.Disable", "sync/atomic.CompareAndSwapInt32", "internal/race.Enable", "internal/race.Acquire", "(*internal/sync.Mutex).lockSlow", "internal/sync.runtime_canSpin", "internal/sync.runtime_doSpin", "internal/sync.throw", "internal/sync.runtime_nanotime", "internal/sync.runtime_SemacquireMutex", "sync/atomic.AddInt32", "(*internal/sync.Mutex).Unlock", "internal/race.ReleaseMerge", "(*internal/sync.Mutex).unlockSlow", "internal/sync.fatal", "internal/sync.runtime_Semrelease"], unfollowed := true, recurses := true, apart := false, narrowed := true }
def FnArriveDepartUptoSaid : Prop := fnArriveDepartUptoRow.holds Tryz.pinned (OpenSpec.upto fnArriveDepartSpec)

/-- 'laws.FnScaleOut', WHERE WHAT IT READS IS OF BULK AT MOST 1048576: true; the input reads as it did. -/
def fnScaleOutUptoRow : OpenClaim := { program := "ytfgibhdglbjadaagreat", sum := "af0b242fcdf55380f471f168a331e6efef44106f786c86ba52e0be9326b91b8a", func := "loop.example/vectorpacker/laws.FnScaleOut", spec := "fnScaleOut", inPlace := ["(*internal/sync.Mutex).Lock", "internal/race.Disable", "sync/atomic.CompareAndSwapInt32", "internal/race.Enable", "internal/race.Acquire", "(*internal/sync.Mutex).lockSlow", "internal/sync.runtime_canSpin", "internal/sync.runtime_doSpin", "internal/sync.throw", "internal/sync.runtime_nanotime", "internal/sync.runtime_SemacquireMutex", "sync/atomic.AddInt32", "(*internal/sync.Mutex).Unlock", "internal/race.ReleaseMerge", "(*internal/sync.Mutex).unlockSlow", "internal/sync.fatal", "internal/sync.runtime_Semrelease"], unfollowed := true, recurses := true, apart := false, narrowed := true }
def FnScaleOutUptoSaid : Prop := fnScaleOutUptoRow.holds Tryz.pinned (OpenSpec.upto fnScaleOutSpec)

/-- 'laws.FnScaleIn', WHERE WHAT IT READS IS OF BULK AT MOST 1048576: true; the input reads as it did. -/
def fnScaleInUptoRow : OpenClaim := { program := "ytfgibhdglbjadaagreat", sum := "af0b242fcdf55380f471f168a331e6efef44106f786c86ba52e0be9326b91b8a", func := "loop.example/vectorpacker/laws.FnScaleIn", spec := "fnScaleIn", inPlace := ["(*internal/sync.Mutex).Lock", "internal/race.Disable", "sync/atomic.CompareAndSwapInt32", "internal/race.Enable", "internal/race.Acquire", "(*internal/sync.Mutex).lockSlow", "internal/sync.runtime_canSpin", "internal/sync.runtime_doSpin", "internal/sync.throw", "internal/sync.runtime_nanotime", "internal/sync.runtime_SemacquireMutex", "sync/atomic.AddInt32", "(*internal/sync.Mutex).Unlock", "internal/race.ReleaseMerge", "(*internal/sync.Mutex).unlockSlow", "internal/sync.fatal", "internal/sync.runtime_Semrelease"], unfollowed := true, recurses := true, apart := false, narrowed := true }
def FnScaleInUptoSaid : Prop := fnScaleInUptoRow.holds Tryz.pinned (OpenSpec.upto fnScaleInSpec)

/-- 'laws.FnScaleInAll', WHERE WHAT IT READS IS OF BULK AT MOST 1048576: true; the input reads as it did. -/
def fnScaleInAllUptoRow : OpenClaim := { program := "ytfgibhdglbjadaagreat", sum := "af0b242fcdf55380f471f168a331e6efef44106f786c86ba52e0be9326b91b8a", func := "loop.example/vectorpacker/laws.FnScaleInAll", spec := "fnScaleInAll", inPlace := ["(*internal/sync.Mutex).Lock", "internal/race.Disable", "sync/atomic.CompareAndSwapInt32", "internal/race.Enable", "internal/race.Acquire", "(*internal/sync.Mutex).lockSlow", "internal/sync.runtime_canSpin", "internal/sync.runtime_doSpin", "internal/sync.throw", "internal/sync.runtime_nanotime", "internal/sync.runtime_SemacquireMutex", "sync/atomic.AddInt32", "(*internal/sync.Mutex).Unlock", "internal/race.ReleaseMerge", "(*internal/sync.Mutex).unlockSlow", "internal/sync.fatal", "internal/sync.runtime_Semrelease"], unfollowed := true, recurses := true, apart := false, narrowed := true }
def FnScaleInAllUptoSaid : Prop := fnScaleInAllUptoRow.holds Tryz.pinned (OpenSpec.upto fnScaleInAllSpec)

end Rows
end Go.Proofs.YtfgibhdglbjadaaGreat
