/-
  No cell of these rows narrows 'for every input' (looked for: loops, veiled, ifaces, maps, wideKeys, modest, calm, conditions, laid).
  DERIVED. THE GIVEN ROWS OF THIS SEAT. 15 by the template 'for every input the law returns true; each argument reads behind the call as it read before'; 0 by the template 'total and deterministic' (their statements: YtfgibhdglbjadaaTotals.lean).
  GIVEN WITH THE SEED: the statements are not yours to turn. If you find one false, say at which input.
  Laid BY PROGRAM, IN A SANDBOX (cutbox-rows.mjs): the forced cells as the released guide's own fill.sh prints them over the translation fba069ceb94a3444… (all of the seat's roots in one cut). By AI agents, Wed Nov 11 2026. No macro, syntax, notation, axiom, sorry.
-/
import Derived.Test.YtfgibhdglbjadaaChecked
import GoSem.Claim
import GoSem.ClaimJoined
import GoSem.ClaimMapViews
import Derived.JoinedTies
import Derived.KernelRfl
namespace Go.Proofs.Ytfgibhdglbjadaa
/- THE CELL 'sum', in the pinned program and in every row, IS THE sha256 OF THE DUMP (.gsa) THAT YtfgibhdglbjadaaProg.lean LOADS. Nothing in Lean hashes anything: it is a label: what it is worth is what the hold of that sum in a sandbox is worth. -/
noncomputable def Try.pinned : Pinned := { name := "ytfgibhdglbjadaa", sum := "fba069ceb94a344403a3d504aff3b049f4bf7243616c2bb00f2cfc2b54fdd354", checked := Try.checked }
namespace Rows
def none {H : Type} : Left H := { results := [], args := [] }

/-- 'laws.FnSpare': WHATEVER THE INPUT: true; the input reads as it did. -/
def fnSpareSpec : ChangeSpec := { name := "fnSpare", fn := fun _ => fun
  | [d1, d2] => { results := [.lit (.bool true)], args := [d1, d2] }
  | _ => none }
def fnSpareRow : OpenClaim := { program := "ytfgibhdglbjadaa", sum := "fba069ceb94a344403a3d504aff3b049f4bf7243616c2bb00f2cfc2b54fdd354", func := "loop.example/vectorpacker/laws.FnSpare", spec := "fnSpare", unfollowed := true, recurses := true, apart := false }
def FnSpareSaid : Prop := fnSpareRow.holds Try.pinned (OpenSpec.ofChange fnSpareSpec)

/-- ITS FALSE NEIGHBOUR: 'it returns false'. Refute it at one input. -/
def fnSpareWrong : ChangeSpec := { name := "fnSpare", fn := fun _ => fun
  | [d1, d2] => { results := [.lit (.bool false)], args := [d1, d2] }
  | _ => none }
def FnSpareWrongFalsely : Prop := fnSpareRow.holds Try.pinned (OpenSpec.ofChange fnSpareWrong)

/-- 'laws.FnExactClusterBytes': WHATEVER THE INPUT: true; the input reads as it did. -/
def fnExactClusterBytesSpec : ChangeSpec := { name := "fnExactClusterBytes", fn := fun _ => fun
  | [d] => { results := [.lit (.bool true)], args := [d] }
  | _ => none }
def fnExactClusterBytesRow : OpenClaim := { program := "ytfgibhdglbjadaa", sum := "fba069ceb94a344403a3d504aff3b049f4bf7243616c2bb00f2cfc2b54fdd354", func := "loop.example/vectorpacker/laws.FnExactClusterBytes", spec := "fnExactClusterBytes", unfollowed := true, recurses := true, apart := false }
def FnExactClusterBytesSaid : Prop := fnExactClusterBytesRow.holds Try.pinned (OpenSpec.ofChange fnExactClusterBytesSpec)

/-- ITS FALSE NEIGHBOUR: 'it returns false'. Refute it at one input. -/
def fnExactClusterBytesWrong : ChangeSpec := { name := "fnExactClusterBytes", fn := fun _ => fun
  | [d] => { results := [.lit (.bool false)], args := [d] }
  | _ => none }
def FnExactClusterBytesWrongFalsely : Prop := fnExactClusterBytesRow.holds Try.pinned (OpenSpec.ofChange fnExactClusterBytesWrong)

/-- 'laws.FnExactScaleOut': WHATEVER THE INPUT: true; the input reads as it did. -/
def fnExactScaleOutSpec : ChangeSpec := { name := "fnExactScaleOut", fn := fun _ => fun
  | [d1, d2, d3] => { results := [.lit (.bool true)], args := [d1, d2, d3] }
  | _ => none }
def fnExactScaleOutRow : OpenClaim := { program := "ytfgibhdglbjadaa", sum := "fba069ceb94a344403a3d504aff3b049f4bf7243616c2bb00f2cfc2b54fdd354", func := "loop.example/vectorpacker/laws.FnExactScaleOut", spec := "fnExactScaleOut", unfollowed := true, recurses := true, apart := false }
def FnExactScaleOutSaid : Prop := fnExactScaleOutRow.holds Try.pinned (OpenSpec.ofChange fnExactScaleOutSpec)

/-- ITS FALSE NEIGHBOUR: 'it returns false'. Refute it at one input. -/
def fnExactScaleOutWrong : ChangeSpec := { name := "fnExactScaleOut", fn := fun _ => fun
  | [d1, d2, d3] => { results := [.lit (.bool false)], args := [d1, d2, d3] }
  | _ => none }
def FnExactScaleOutWrongFalsely : Prop := fnExactScaleOutRow.holds Try.pinned (OpenSpec.ofChange fnExactScaleOutWrong)

/-- 'laws.FnBytesSum': WHATEVER THE INPUT: true; the input reads as it did. -/
def fnBytesSumSpec : ChangeSpec := { name := "fnBytesSum", fn := fun _ => fun
  | [d] => { results := [.lit (.bool true)], args := [d] }
  | _ => none }
def fnBytesSumRow : OpenClaim := { program := "ytfgibhdglbjadaa", sum := "fba069ceb94a344403a3d504aff3b049f4bf7243616c2bb00f2cfc2b54fdd354", func := "loop.example/vectorpacker/laws.FnBytesSum", spec := "fnBytesSum", unfollowed := true, recurses := true, apart := false }
def FnBytesSumSaid : Prop := fnBytesSumRow.holds Try.pinned (OpenSpec.ofChange fnBytesSumSpec)

/-- ITS FALSE NEIGHBOUR: 'it returns false'. Refute it at one input. -/
def fnBytesSumWrong : ChangeSpec := { name := "fnBytesSum", fn := fun _ => fun
  | [d] => { results := [.lit (.bool false)], args := [d] }
  | _ => none }
def FnBytesSumWrongFalsely : Prop := fnBytesSumRow.holds Try.pinned (OpenSpec.ofChange fnBytesSumWrong)

/-- 'laws.FnOpen': WHATEVER THE INPUT: true; the input reads as it did. -/
def fnOpenSpec : ChangeSpec := { name := "fnOpen", fn := fun _ => fun
  | [d] => { results := [.lit (.bool true)], args := [d] }
  | _ => none }
def fnOpenRow : OpenClaim := { program := "ytfgibhdglbjadaa", sum := "fba069ceb94a344403a3d504aff3b049f4bf7243616c2bb00f2cfc2b54fdd354", func := "loop.example/vectorpacker/laws.FnOpen", spec := "fnOpen", inPlace := ["(*internal/sync.Mutex).Lock", "internal/race.Disable", "sync/atomic.CompareAndSwapInt32", "internal/race.Enable", "internal/race.Acquire", "(*internal/sync.Mutex).lockSlow", "internal/sync.runtime_canSpin", "internal/sync.runtime_doSpin", "internal/sync.throw", "internal/sync.runtime_nanotime", "internal/sync.runtime_SemacquireMutex", "sync/atomic.AddInt32", "(*internal/sync.Mutex).Unlock", "internal/race.ReleaseMerge", "(*internal/sync.Mutex).unlockSlow", "internal/sync.fatal", "internal/sync.runtime_Semrelease"], unfollowed := true, recurses := true, apart := false }
def FnOpenSaid : Prop := fnOpenRow.holds Try.pinned (OpenSpec.ofChange fnOpenSpec)

/-- ITS FALSE NEIGHBOUR: 'it returns false'. Refute it at one input. -/
def fnOpenWrong : ChangeSpec := { name := "fnOpen", fn := fun _ => fun
  | [d] => { results := [.lit (.bool false)], args := [d] }
  | _ => none }
def FnOpenWrongFalsely : Prop := fnOpenRow.holds Try.pinned (OpenSpec.ofChange fnOpenWrong)

/-- 'laws.FnOpenCode': WHATEVER THE INPUT: true; the input reads as it did. -/
def fnOpenCodeSpec : ChangeSpec := { name := "fnOpenCode", fn := fun _ => fun
  | [d] => { results := [.lit (.bool true)], args := [d] }
  | _ => none }
def fnOpenCodeRow : OpenClaim := { program := "ytfgibhdglbjadaa", sum := "fba069ceb94a344403a3d504aff3b049f4bf7243616c2bb00f2cfc2b54fdd354", func := "loop.example/vectorpacker/laws.FnOpenCode", spec := "fnOpenCode", inPlace := ["(*internal/sync.Mutex).Lock", "internal/race.Disable", "sync/atomic.CompareAndSwapInt32", "internal/race.Enable", "internal/race.Acquire", "(*internal/sync.Mutex).lockSlow", "internal/sync.runtime_canSpin", "internal/sync.runtime_doSpin", "internal/sync.throw", "internal/sync.runtime_nanotime", "internal/sync.runtime_SemacquireMutex", "sync/atomic.AddInt32", "(*internal/sync.Mutex).Unlock", "internal/race.ReleaseMerge", "(*internal/sync.Mutex).unlockSlow", "internal/sync.fatal", "internal/sync.runtime_Semrelease"], unfollowed := true, recurses := true, apart := false }
def FnOpenCodeSaid : Prop := fnOpenCodeRow.holds Try.pinned (OpenSpec.ofChange fnOpenCodeSpec)

/-- ITS FALSE NEIGHBOUR: 'it returns false'. Refute it at one input. -/
def fnOpenCodeWrong : ChangeSpec := { name := "fnOpenCode", fn := fun _ => fun
  | [d] => { results := [.lit (.bool false)], args := [d] }
  | _ => none }
def FnOpenCodeWrongFalsely : Prop := fnOpenCodeRow.holds Try.pinned (OpenSpec.ofChange fnOpenCodeWrong)

/-- 'laws.FnExactScaleIn': WHATEVER THE INPUT: true; the input reads as it did. -/
def fnExactScaleInSpec : ChangeSpec := { name := "fnExactScaleIn", fn := fun _ => fun
  | [d1, d2, d3] => { results := [.lit (.bool true)], args := [d1, d2, d3] }
  | _ => none }
def fnExactScaleInRow : OpenClaim := { program := "ytfgibhdglbjadaa", sum := "fba069ceb94a344403a3d504aff3b049f4bf7243616c2bb00f2cfc2b54fdd354", func := "loop.example/vectorpacker/laws.FnExactScaleIn", spec := "fnExactScaleIn", unfollowed := true, recurses := true, apart := false }
def FnExactScaleInSaid : Prop := fnExactScaleInRow.holds Try.pinned (OpenSpec.ofChange fnExactScaleInSpec)

/-- ITS FALSE NEIGHBOUR: 'it returns false'. Refute it at one input. -/
def fnExactScaleInWrong : ChangeSpec := { name := "fnExactScaleIn", fn := fun _ => fun
  | [d1, d2, d3] => { results := [.lit (.bool false)], args := [d1, d2, d3] }
  | _ => none }
def FnExactScaleInWrongFalsely : Prop := fnExactScaleInRow.holds Try.pinned (OpenSpec.ofChange fnExactScaleInWrong)

/-- 'laws.FnScaleOutMore': WHATEVER THE INPUT: true; the input reads as it did. -/
def fnScaleOutMoreSpec : ChangeSpec := { name := "fnScaleOutMore", fn := fun _ => fun
  | [d] => { results := [.lit (.bool true)], args := [d] }
  | _ => none }
def fnScaleOutMoreRow : OpenClaim := { program := "ytfgibhdglbjadaa", sum := "fba069ceb94a344403a3d504aff3b049f4bf7243616c2bb00f2cfc2b54fdd354", func := "loop.example/vectorpacker/laws.FnScaleOutMore", spec := "fnScaleOutMore", unfollowed := true, recurses := true, apart := false }
def FnScaleOutMoreSaid : Prop := fnScaleOutMoreRow.holds Try.pinned (OpenSpec.ofChange fnScaleOutMoreSpec)

/-- ITS FALSE NEIGHBOUR: 'it returns false'. Refute it at one input. -/
def fnScaleOutMoreWrong : ChangeSpec := { name := "fnScaleOutMore", fn := fun _ => fun
  | [d] => { results := [.lit (.bool false)], args := [d] }
  | _ => none }
def FnScaleOutMoreWrongFalsely : Prop := fnScaleOutMoreRow.holds Try.pinned (OpenSpec.ofChange fnScaleOutMoreWrong)

/-- 'laws.FnScaleOutNone': WHATEVER THE INPUT: true; the input reads as it did. -/
def fnScaleOutNoneSpec : ChangeSpec := { name := "fnScaleOutNone", fn := fun _ => fun
  | [d] => { results := [.lit (.bool true)], args := [d] }
  | _ => none }
def fnScaleOutNoneRow : OpenClaim := { program := "ytfgibhdglbjadaa", sum := "fba069ceb94a344403a3d504aff3b049f4bf7243616c2bb00f2cfc2b54fdd354", func := "loop.example/vectorpacker/laws.FnScaleOutNone", spec := "fnScaleOutNone", unfollowed := true, recurses := true, apart := false }
def FnScaleOutNoneSaid : Prop := fnScaleOutNoneRow.holds Try.pinned (OpenSpec.ofChange fnScaleOutNoneSpec)

/-- ITS FALSE NEIGHBOUR: 'it returns false'. Refute it at one input. -/
def fnScaleOutNoneWrong : ChangeSpec := { name := "fnScaleOutNone", fn := fun _ => fun
  | [d] => { results := [.lit (.bool false)], args := [d] }
  | _ => none }
def FnScaleOutNoneWrongFalsely : Prop := fnScaleOutNoneRow.holds Try.pinned (OpenSpec.ofChange fnScaleOutNoneWrong)

/-- 'laws.FnExactClusterOpen': WHATEVER THE INPUT: true; the input reads as it did. -/
def fnExactClusterOpenSpec : ChangeSpec := { name := "fnExactClusterOpen", fn := fun _ => fun
  | [d1, d2, d3] => { results := [.lit (.bool true)], args := [d1, d2, d3] }
  | _ => none }
def fnExactClusterOpenRow : OpenClaim := { program := "ytfgibhdglbjadaa", sum := "fba069ceb94a344403a3d504aff3b049f4bf7243616c2bb00f2cfc2b54fdd354", func := "loop.example/vectorpacker/laws.FnExactClusterOpen", spec := "fnExactClusterOpen", inPlace := ["(*internal/sync.Mutex).Lock", "internal/race.Disable", "sync/atomic.CompareAndSwapInt32", "internal/race.Enable", "internal/race.Acquire", "(*internal/sync.Mutex).lockSlow", "internal/sync.runtime_canSpin", "internal/sync.runtime_doSpin", "internal/sync.throw", "internal/sync.runtime_nanotime", "internal/sync.runtime_SemacquireMutex", "sync/atomic.AddInt32", "(*internal/sync.Mutex).Unlock", "internal/race.ReleaseMerge", "(*internal/sync.Mutex).unlockSlow", "internal/sync.fatal", "internal/sync.runtime_Semrelease"], unfollowed := true, recurses := true, apart := false }
def FnExactClusterOpenSaid : Prop := fnExactClusterOpenRow.holds Try.pinned (OpenSpec.ofChange fnExactClusterOpenSpec)

/-- ITS FALSE NEIGHBOUR: 'it returns false'. Refute it at one input. -/
def fnExactClusterOpenWrong : ChangeSpec := { name := "fnExactClusterOpen", fn := fun _ => fun
  | [d1, d2, d3] => { results := [.lit (.bool false)], args := [d1, d2, d3] }
  | _ => none }
def FnExactClusterOpenWrongFalsely : Prop := fnExactClusterOpenRow.holds Try.pinned (OpenSpec.ofChange fnExactClusterOpenWrong)

/-- 'laws.FnArriveGrant': WHATEVER THE INPUT: true; the input reads as it did. -/
def fnArriveGrantSpec : ChangeSpec := { name := "fnArriveGrant", fn := fun _ => fun
  | [d] => { results := [.lit (.bool true)], args := [d] }
  | _ => none }
def fnArriveGrantRow : OpenClaim := { program := "ytfgibhdglbjadaa", sum := "fba069ceb94a344403a3d504aff3b049f4bf7243616c2bb00f2cfc2b54fdd354", func := "loop.example/vectorpacker/laws.FnArriveGrant", spec := "fnArriveGrant", inPlace := ["(*internal/sync.Mutex).Lock", "internal/race.Disable", "sync/atomic.CompareAndSwapInt32", "internal/race.Enable", "internal/race.Acquire", "(*internal/sync.Mutex).lockSlow", "internal/sync.runtime_canSpin", "internal/sync.runtime_doSpin", "internal/sync.throw", "internal/sync.runtime_nanotime", "internal/sync.runtime_SemacquireMutex", "sync/atomic.AddInt32", "(*internal/sync.Mutex).Unlock", "internal/race.ReleaseMerge", "(*internal/sync.Mutex).unlockSlow", "internal/sync.fatal", "internal/sync.runtime_Semrelease"], unfollowed := true, recurses := true, apart := false }
def FnArriveGrantSaid : Prop := fnArriveGrantRow.holds Try.pinned (OpenSpec.ofChange fnArriveGrantSpec)

/-- ITS FALSE NEIGHBOUR: 'it returns false'. Refute it at one input. -/
def fnArriveGrantWrong : ChangeSpec := { name := "fnArriveGrant", fn := fun _ => fun
  | [d] => { results := [.lit (.bool false)], args := [d] }
  | _ => none }
def FnArriveGrantWrongFalsely : Prop := fnArriveGrantRow.holds Try.pinned (OpenSpec.ofChange fnArriveGrantWrong)

/-- 'laws.FnArriveNot': WHATEVER THE INPUT: true; the input reads as it did. -/
def fnArriveNotSpec : ChangeSpec := { name := "fnArriveNot", fn := fun _ => fun
  | [d] => { results := [.lit (.bool true)], args := [d] }
  | _ => none }
def fnArriveNotRow : OpenClaim := { program := "ytfgibhdglbjadaa", sum := "fba069ceb94a344403a3d504aff3b049f4bf7243616c2bb00f2cfc2b54fdd354", func := "loop.example/vectorpacker/laws.FnArriveNot", spec := "fnArriveNot", inPlace := ["(*internal/sync.Mutex).Lock", "internal/race.Disable", "sync/atomic.CompareAndSwapInt32", "internal/race.Enable", "internal/race.Acquire", "(*internal/sync.Mutex).lockSlow", "internal/sync.runtime_canSpin", "internal/sync.runtime_doSpin", "internal/sync.throw", "internal/sync.runtime_nanotime", "internal/sync.runtime_SemacquireMutex", "sync/atomic.AddInt32", "(*internal/sync.Mutex).Unlock", "internal/race.ReleaseMerge", "(*internal/sync.Mutex).unlockSlow", "internal/sync.fatal", "internal/sync.runtime_Semrelease"], unfollowed := true, recurses := true, apart := false }
def FnArriveNotSaid : Prop := fnArriveNotRow.holds Try.pinned (OpenSpec.ofChange fnArriveNotSpec)

/-- ITS FALSE NEIGHBOUR: 'it returns false'. Refute it at one input. -/
def fnArriveNotWrong : ChangeSpec := { name := "fnArriveNot", fn := fun _ => fun
  | [d] => { results := [.lit (.bool false)], args := [d] }
  | _ => none }
def FnArriveNotWrongFalsely : Prop := fnArriveNotRow.holds Try.pinned (OpenSpec.ofChange fnArriveNotWrong)

/-- 'laws.FnSpareOpen': WHATEVER THE INPUT: true; the input reads as it did. -/
def fnSpareOpenSpec : ChangeSpec := { name := "fnSpareOpen", fn := fun _ => fun
  | [d1, d2] => { results := [.lit (.bool true)], args := [d1, d2] }
  | _ => none }
def fnSpareOpenRow : OpenClaim := { program := "ytfgibhdglbjadaa", sum := "fba069ceb94a344403a3d504aff3b049f4bf7243616c2bb00f2cfc2b54fdd354", func := "loop.example/vectorpacker/laws.FnSpareOpen", spec := "fnSpareOpen", inPlace := ["(*internal/sync.Mutex).Lock", "internal/race.Disable", "sync/atomic.CompareAndSwapInt32", "internal/race.Enable", "internal/race.Acquire", "(*internal/sync.Mutex).lockSlow", "internal/sync.runtime_canSpin", "internal/sync.runtime_doSpin", "internal/sync.throw", "internal/sync.runtime_nanotime", "internal/sync.runtime_SemacquireMutex", "sync/atomic.AddInt32", "(*internal/sync.Mutex).Unlock", "internal/race.ReleaseMerge", "(*internal/sync.Mutex).unlockSlow", "internal/sync.fatal", "internal/sync.runtime_Semrelease"], unfollowed := true, recurses := true, apart := false }
def FnSpareOpenSaid : Prop := fnSpareOpenRow.holds Try.pinned (OpenSpec.ofChange fnSpareOpenSpec)

/-- ITS FALSE NEIGHBOUR: 'it returns false'. Refute it at one input. -/
def fnSpareOpenWrong : ChangeSpec := { name := "fnSpareOpen", fn := fun _ => fun
  | [d1, d2] => { results := [.lit (.bool false)], args := [d1, d2] }
  | _ => none }
def FnSpareOpenWrongFalsely : Prop := fnSpareOpenRow.holds Try.pinned (OpenSpec.ofChange fnSpareOpenWrong)

/-- 'laws.FnArriveFull': WHATEVER THE INPUT: true; the input reads as it did. -/
def fnArriveFullSpec : ChangeSpec := { name := "fnArriveFull", fn := fun _ => fun
  | [d] => { results := [.lit (.bool true)], args := [d] }
  | _ => none }
def fnArriveFullRow : OpenClaim := { program := "ytfgibhdglbjadaa", sum := "fba069ceb94a344403a3d504aff3b049f4bf7243616c2bb00f2cfc2b54fdd354", func := "loop.example/vectorpacker/laws.FnArriveFull", spec := "fnArriveFull", inPlace := ["(*internal/sync.Mutex).Lock", "internal/race.Disable", "sync/atomic.CompareAndSwapInt32", "internal/race.Enable", "internal/race.Acquire", "(*internal/sync.Mutex).lockSlow", "internal/sync.runtime_canSpin", "internal/sync.runtime_doSpin", "internal/sync.throw", "internal/sync.runtime_nanotime", "internal/sync.runtime_SemacquireMutex", "sync/atomic.AddInt32", "(*internal/sync.Mutex).Unlock", "internal/race.ReleaseMerge", "(*internal/sync.Mutex).unlockSlow", "internal/sync.fatal", "internal/sync.runtime_Semrelease"], unfollowed := true, recurses := true, apart := false }
def FnArriveFullSaid : Prop := fnArriveFullRow.holds Try.pinned (OpenSpec.ofChange fnArriveFullSpec)

/-- ITS FALSE NEIGHBOUR: 'it returns false'. Refute it at one input. -/
def fnArriveFullWrong : ChangeSpec := { name := "fnArriveFull", fn := fun _ => fun
  | [d] => { results := [.lit (.bool false)], args := [d] }
  | _ => none }
def FnArriveFullWrongFalsely : Prop := fnArriveFullRow.holds Try.pinned (OpenSpec.ofChange fnArriveFullWrong)

/-- 'laws.FnArriveOpen': WHATEVER THE INPUT: true; the input reads as it did. -/
def fnArriveOpenSpec : ChangeSpec := { name := "fnArriveOpen", fn := fun _ => fun
  | [d] => { results := [.lit (.bool true)], args := [d] }
  | _ => none }
def fnArriveOpenRow : OpenClaim := { program := "ytfgibhdglbjadaa", sum := "fba069ceb94a344403a3d504aff3b049f4bf7243616c2bb00f2cfc2b54fdd354", func := "loop.example/vectorpacker/laws.FnArriveOpen", spec := "fnArriveOpen", inPlace := ["(*internal/sync.Mutex).Lock", "internal/race.Disable", "sync/atomic.CompareAndSwapInt32", "internal/race.Enable", "internal/race.Acquire", "(*internal/sync.Mutex).lockSlow", "internal/sync.runtime_canSpin", "internal/sync.runtime_doSpin", "internal/sync.throw", "internal/sync.runtime_nanotime", "internal/sync.runtime_SemacquireMutex", "sync/atomic.AddInt32", "(*internal/sync.Mutex).Unlock", "internal/race.ReleaseMerge", "(*internal/sync.Mutex).unlockSlow", "internal/sync.fatal", "internal/sync.runtime_Semrelease"], unfollowed := true, recurses := true, apart := false }
def FnArriveOpenSaid : Prop := fnArriveOpenRow.holds Try.pinned (OpenSpec.ofChange fnArriveOpenSpec)

/-- ITS FALSE NEIGHBOUR: 'it returns false'. Refute it at one input. -/
def fnArriveOpenWrong : ChangeSpec := { name := "fnArriveOpen", fn := fun _ => fun
  | [d] => { results := [.lit (.bool false)], args := [d] }
  | _ => none }
def FnArriveOpenWrongFalsely : Prop := fnArriveOpenRow.holds Try.pinned (OpenSpec.ofChange fnArriveOpenWrong)

/- THE SECOND FORM. 'bulk': how many values and letters a reading holds, each counted each time it is reached (what is shared counts as often as it is met; a slice's spare places count too). A statement '..UptoSaid' is the law's where the arguments, and the package variables that the reading takes, are together of bulk at most 1048576: NARROWER than '..Said'. Prove '..Said' where nothing that the law and all that it calls make is longer than what came in: it says more and counts as full. Else prove '..UptoSaid'. A law counts once. -/
mutual
def uptoBulk {H : Type} : DataW H → Nat
  | .lit (.string bytes) => bytes.length + 1
  | .lit _ => 1
  | .nil => 1
  | .ptr d => uptoBulk d + 1
  | .slice elems spare => uptoBulkAll elems + uptoBulkAll spare + 1
  | .agg parts => uptoBulkAll parts + 1
  | .iface _ d => uptoBulk d + 1
  | .map entries => uptoBulkEntries entries + 1
  | .held _ => 1
def uptoBulkAll {H : Type} : List (DataW H) → Nat
  | [] => 0
  | d :: r => uptoBulk d + uptoBulkAll r
def uptoBulkEntries {H : Type} : List (Lit × DataW H) → Nat
  | [] => 0
  | x :: r => uptoBulkEntry x + uptoBulkEntries r
def uptoBulkEntry {H : Type} : Lit × DataW H → Nat
  | (.string bytes, d) => bytes.length + uptoBulk d + 1
  | (_, d) => uptoBulk d + 1
 end
def uptoSmall : (H : Type) → List (DataW H) → Bool := fun _ ds => decide (uptoBulkAll ds ≤ 1048576)
def OpenSpec.upto (s : _root_.Go.ChangeSpec) : _root_.Go.OpenSpec := { _root_.Go.OpenSpec.ofChange s with cond := some uptoSmall }

/-- 'laws.FnSpare', WHERE WHAT IT READS IS OF BULK AT MOST 1048576: true; the input reads as it did. -/
def fnSpareUptoRow : OpenClaim := { program := "ytfgibhdglbjadaa", sum := "fba069ceb94a344403a3d504aff3b049f4bf7243616c2bb00f2cfc2b54fdd354", func := "loop.example/vectorpacker/laws.FnSpare", spec := "fnSpare", unfollowed := true, recurses := true, apart := false, narrowed := true }
def FnSpareUptoSaid : Prop := fnSpareUptoRow.holds Try.pinned (OpenSpec.upto fnSpareSpec)

/-- 'laws.FnExactClusterBytes', WHERE WHAT IT READS IS OF BULK AT MOST 1048576: true; the input reads as it did. -/
def fnExactClusterBytesUptoRow : OpenClaim := { program := "ytfgibhdglbjadaa", sum := "fba069ceb94a344403a3d504aff3b049f4bf7243616c2bb00f2cfc2b54fdd354", func := "loop.example/vectorpacker/laws.FnExactClusterBytes", spec := "fnExactClusterBytes", unfollowed := true, recurses := true, apart := false, narrowed := true }
def FnExactClusterBytesUptoSaid : Prop := fnExactClusterBytesUptoRow.holds Try.pinned (OpenSpec.upto fnExactClusterBytesSpec)

/-- 'laws.FnExactScaleOut', WHERE WHAT IT READS IS OF BULK AT MOST 1048576: true; the input reads as it did. -/
def fnExactScaleOutUptoRow : OpenClaim := { program := "ytfgibhdglbjadaa", sum := "fba069ceb94a344403a3d504aff3b049f4bf7243616c2bb00f2cfc2b54fdd354", func := "loop.example/vectorpacker/laws.FnExactScaleOut", spec := "fnExactScaleOut", unfollowed := true, recurses := true, apart := false, narrowed := true }
def FnExactScaleOutUptoSaid : Prop := fnExactScaleOutUptoRow.holds Try.pinned (OpenSpec.upto fnExactScaleOutSpec)

/-- 'laws.FnBytesSum', WHERE WHAT IT READS IS OF BULK AT MOST 1048576: true; the input reads as it did. -/
def fnBytesSumUptoRow : OpenClaim := { program := "ytfgibhdglbjadaa", sum := "fba069ceb94a344403a3d504aff3b049f4bf7243616c2bb00f2cfc2b54fdd354", func := "loop.example/vectorpacker/laws.FnBytesSum", spec := "fnBytesSum", unfollowed := true, recurses := true, apart := false, narrowed := true }
def FnBytesSumUptoSaid : Prop := fnBytesSumUptoRow.holds Try.pinned (OpenSpec.upto fnBytesSumSpec)

/-- 'laws.FnOpen', WHERE WHAT IT READS IS OF BULK AT MOST 1048576: true; the input reads as it did. -/
def fnOpenUptoRow : OpenClaim := { program := "ytfgibhdglbjadaa", sum := "fba069ceb94a344403a3d504aff3b049f4bf7243616c2bb00f2cfc2b54fdd354", func := "loop.example/vectorpacker/laws.FnOpen", spec := "fnOpen", inPlace := ["(*internal/sync.Mutex).Lock", "internal/race.Disable", "sync/atomic.CompareAndSwapInt32", "internal/race.Enable", "internal/race.Acquire", "(*internal/sync.Mutex).lockSlow", "internal/sync.runtime_canSpin", "internal/sync.runtime_doSpin", "internal/sync.throw", "internal/sync.runtime_nanotime", "internal/sync.runtime_SemacquireMutex", "sync/atomic.AddInt32", "(*internal/sync.Mutex).Unlock", "internal/race.ReleaseMerge", "(*internal/sync.Mutex).unlockSlow", "internal/sync.fatal", "internal/sync.runtime_Semrelease"], unfollowed := true, recurses := true, apart := false, narrowed := true }
def FnOpenUptoSaid : Prop := fnOpenUptoRow.holds Try.pinned (OpenSpec.upto fnOpenSpec)

/-- 'laws.FnOpenCode', WHERE WHAT IT READS IS OF BULK AT MOST 1048576: true; the input reads as it did. -/
def fnOpenCodeUptoRow : OpenClaim := { program := "ytfgibhdglbjadaa", sum := "fba069ceb94a344403a3d504aff3b049f4bf7243616c2bb00f2cfc2b54fdd354", func := "loop.example/vectorpacker/laws.FnOpenCode", spec := "fnOpenCode", inPlace := ["(*internal/sync.Mutex).Lock", "internal/race.Disable", "sync/atomic.CompareAndSwapInt32", "internal/race.Enable", "internal/race.Acquire", "(*internal/sync.Mutex).lockSlow", "internal/sync.runtime_canSpin", "internal/sync.runtime_doSpin", "internal/sync.throw", "internal/sync.runtime_nanotime", "internal/sync.runtime_SemacquireMutex", "sync/atomic.AddInt32", "(*internal/sync.Mutex).Unlock", "internal/race.ReleaseMerge", "(*internal/sync.Mutex).unlockSlow", "internal/sync.fatal", "internal/sync.runtime_Semrelease"], unfollowed := true, recurses := true, apart := false, narrowed := true }
def FnOpenCodeUptoSaid : Prop := fnOpenCodeUptoRow.holds Try.pinned (OpenSpec.upto fnOpenCodeSpec)

/-- 'laws.FnExactScaleIn', WHERE WHAT IT READS IS OF BULK AT MOST 1048576: true; the input reads as it did. -/
def fnExactScaleInUptoRow : OpenClaim := { program := "ytfgibhdglbjadaa", sum := "fba069ceb94a344403a3d504aff3b049f4bf7243616c2bb00f2cfc2b54fdd354", func := "loop.example/vectorpacker/laws.FnExactScaleIn", spec := "fnExactScaleIn", unfollowed := true, recurses := true, apart := false, narrowed := true }
def FnExactScaleInUptoSaid : Prop := fnExactScaleInUptoRow.holds Try.pinned (OpenSpec.upto fnExactScaleInSpec)

/-- 'laws.FnScaleOutMore', WHERE WHAT IT READS IS OF BULK AT MOST 1048576: true; the input reads as it did. -/
def fnScaleOutMoreUptoRow : OpenClaim := { program := "ytfgibhdglbjadaa", sum := "fba069ceb94a344403a3d504aff3b049f4bf7243616c2bb00f2cfc2b54fdd354", func := "loop.example/vectorpacker/laws.FnScaleOutMore", spec := "fnScaleOutMore", unfollowed := true, recurses := true, apart := false, narrowed := true }
def FnScaleOutMoreUptoSaid : Prop := fnScaleOutMoreUptoRow.holds Try.pinned (OpenSpec.upto fnScaleOutMoreSpec)

/-- 'laws.FnScaleOutNone', WHERE WHAT IT READS IS OF BULK AT MOST 1048576: true; the input reads as it did. -/
def fnScaleOutNoneUptoRow : OpenClaim := { program := "ytfgibhdglbjadaa", sum := "fba069ceb94a344403a3d504aff3b049f4bf7243616c2bb00f2cfc2b54fdd354", func := "loop.example/vectorpacker/laws.FnScaleOutNone", spec := "fnScaleOutNone", unfollowed := true, recurses := true, apart := false, narrowed := true }
def FnScaleOutNoneUptoSaid : Prop := fnScaleOutNoneUptoRow.holds Try.pinned (OpenSpec.upto fnScaleOutNoneSpec)

/-- 'laws.FnExactClusterOpen', WHERE WHAT IT READS IS OF BULK AT MOST 1048576: true; the input reads as it did. -/
def fnExactClusterOpenUptoRow : OpenClaim := { program := "ytfgibhdglbjadaa", sum := "fba069ceb94a344403a3d504aff3b049f4bf7243616c2bb00f2cfc2b54fdd354", func := "loop.example/vectorpacker/laws.FnExactClusterOpen", spec := "fnExactClusterOpen", inPlace := ["(*internal/sync.Mutex).Lock", "internal/race.Disable", "sync/atomic.CompareAndSwapInt32", "internal/race.Enable", "internal/race.Acquire", "(*internal/sync.Mutex).lockSlow", "internal/sync.runtime_canSpin", "internal/sync.runtime_doSpin", "internal/sync.throw", "internal/sync.runtime_nanotime", "internal/sync.runtime_SemacquireMutex", "sync/atomic.AddInt32", "(*internal/sync.Mutex).Unlock", "internal/race.ReleaseMerge", "(*internal/sync.Mutex).unlockSlow", "internal/sync.fatal", "internal/sync.runtime_Semrelease"], unfollowed := true, recurses := true, apart := false, narrowed := true }
def FnExactClusterOpenUptoSaid : Prop := fnExactClusterOpenUptoRow.holds Try.pinned (OpenSpec.upto fnExactClusterOpenSpec)

/-- 'laws.FnArriveGrant', WHERE WHAT IT READS IS OF BULK AT MOST 1048576: true; the input reads as it did. -/
def fnArriveGrantUptoRow : OpenClaim := { program := "ytfgibhdglbjadaa", sum := "fba069ceb94a344403a3d504aff3b049f4bf7243616c2bb00f2cfc2b54fdd354", func := "loop.example/vectorpacker/laws.FnArriveGrant", spec := "fnArriveGrant", inPlace := ["(*internal/sync.Mutex).Lock", "internal/race.Disable", "sync/atomic.CompareAndSwapInt32", "internal/race.Enable", "internal/race.Acquire", "(*internal/sync.Mutex).lockSlow", "internal/sync.runtime_canSpin", "internal/sync.runtime_doSpin", "internal/sync.throw", "internal/sync.runtime_nanotime", "internal/sync.runtime_SemacquireMutex", "sync/atomic.AddInt32", "(*internal/sync.Mutex).Unlock", "internal/race.ReleaseMerge", "(*internal/sync.Mutex).unlockSlow", "internal/sync.fatal", "internal/sync.runtime_Semrelease"], unfollowed := true, recurses := true, apart := false, narrowed := true }
def FnArriveGrantUptoSaid : Prop := fnArriveGrantUptoRow.holds Try.pinned (OpenSpec.upto fnArriveGrantSpec)

/-- 'laws.FnArriveNot', WHERE WHAT IT READS IS OF BULK AT MOST 1048576: true; the input reads as it did. -/
def fnArriveNotUptoRow : OpenClaim := { program := "ytfgibhdglbjadaa", sum := "fba069ceb94a344403a3d504aff3b049f4bf7243616c2bb00f2cfc2b54fdd354", func := "loop.example/vectorpacker/laws.FnArriveNot", spec := "fnArriveNot", inPlace := ["(*internal/sync.Mutex).Lock", "internal/race.Disable", "sync/atomic.CompareAndSwapInt32", "internal/race.Enable", "internal/race.Acquire", "(*internal/sync.Mutex).lockSlow", "internal/sync.runtime_canSpin", "internal/sync.runtime_doSpin", "internal/sync.throw", "internal/sync.runtime_nanotime", "internal/sync.runtime_SemacquireMutex", "sync/atomic.AddInt32", "(*internal/sync.Mutex).Unlock", "internal/race.ReleaseMerge", "(*internal/sync.Mutex).unlockSlow", "internal/sync.fatal", "internal/sync.runtime_Semrelease"], unfollowed := true, recurses := true, apart := false, narrowed := true }
def FnArriveNotUptoSaid : Prop := fnArriveNotUptoRow.holds Try.pinned (OpenSpec.upto fnArriveNotSpec)

/-- 'laws.FnSpareOpen', WHERE WHAT IT READS IS OF BULK AT MOST 1048576: true; the input reads as it did. -/
def fnSpareOpenUptoRow : OpenClaim := { program := "ytfgibhdglbjadaa", sum := "fba069ceb94a344403a3d504aff3b049f4bf7243616c2bb00f2cfc2b54fdd354", func := "loop.example/vectorpacker/laws.FnSpareOpen", spec := "fnSpareOpen", inPlace := ["(*internal/sync.Mutex).Lock", "internal/race.Disable", "sync/atomic.CompareAndSwapInt32", "internal/race.Enable", "internal/race.Acquire", "(*internal/sync.Mutex).lockSlow", "internal/sync.runtime_canSpin", "internal/sync.runtime_doSpin", "internal/sync.throw", "internal/sync.runtime_nanotime", "internal/sync.runtime_SemacquireMutex", "sync/atomic.AddInt32", "(*internal/sync.Mutex).Unlock", "internal/race.ReleaseMerge", "(*internal/sync.Mutex).unlockSlow", "internal/sync.fatal", "internal/sync.runtime_Semrelease"], unfollowed := true, recurses := true, apart := false, narrowed := true }
def FnSpareOpenUptoSaid : Prop := fnSpareOpenUptoRow.holds Try.pinned (OpenSpec.upto fnSpareOpenSpec)

/-- 'laws.FnArriveFull', WHERE WHAT IT READS IS OF BULK AT MOST 1048576: true; the input reads as it did. -/
def fnArriveFullUptoRow : OpenClaim := { program := "ytfgibhdglbjadaa", sum := "fba069ceb94a344403a3d504aff3b049f4bf7243616c2bb00f2cfc2b54fdd354", func := "loop.example/vectorpacker/laws.FnArriveFull", spec := "fnArriveFull", inPlace := ["(*internal/sync.Mutex).Lock", "internal/race.Disable", "sync/atomic.CompareAndSwapInt32", "internal/race.Enable", "internal/race.Acquire", "(*internal/sync.Mutex).lockSlow", "internal/sync.runtime_canSpin", "internal/sync.runtime_doSpin", "internal/sync.throw", "internal/sync.runtime_nanotime", "internal/sync.runtime_SemacquireMutex", "sync/atomic.AddInt32", "(*internal/sync.Mutex).Unlock", "internal/race.ReleaseMerge", "(*internal/sync.Mutex).unlockSlow", "internal/sync.fatal", "internal/sync.runtime_Semrelease"], unfollowed := true, recurses := true, apart := false, narrowed := true }
def FnArriveFullUptoSaid : Prop := fnArriveFullUptoRow.holds Try.pinned (OpenSpec.upto fnArriveFullSpec)

/-- 'laws.FnArriveOpen', WHERE WHAT IT READS IS OF BULK AT MOST 1048576: true; the input reads as it did. -/
def fnArriveOpenUptoRow : OpenClaim := { program := "ytfgibhdglbjadaa", sum := "fba069ceb94a344403a3d504aff3b049f4bf7243616c2bb00f2cfc2b54fdd354", func := "loop.example/vectorpacker/laws.FnArriveOpen", spec := "fnArriveOpen", inPlace := ["(*internal/sync.Mutex).Lock", "internal/race.Disable", "sync/atomic.CompareAndSwapInt32", "internal/race.Enable", "internal/race.Acquire", "(*internal/sync.Mutex).lockSlow", "internal/sync.runtime_canSpin", "internal/sync.runtime_doSpin", "internal/sync.throw", "internal/sync.runtime_nanotime", "internal/sync.runtime_SemacquireMutex", "sync/atomic.AddInt32", "(*internal/sync.Mutex).Unlock", "internal/race.ReleaseMerge", "(*internal/sync.Mutex).unlockSlow", "internal/sync.fatal", "internal/sync.runtime_Semrelease"], unfollowed := true, recurses := true, apart := false, narrowed := true }
def FnArriveOpenUptoSaid : Prop := fnArriveOpenUptoRow.holds Try.pinned (OpenSpec.upto fnArriveOpenSpec)

end Rows
end Go.Proofs.Ytfgibhdglbjadaa
