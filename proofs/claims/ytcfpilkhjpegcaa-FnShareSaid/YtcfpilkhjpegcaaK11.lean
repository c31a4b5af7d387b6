/- The lock: its functions and types under their numbers. -/
import Derived.Test.YtcfpilkhjpegcaaK10
import Derived.Test.YtcfpilkhjpegcaaK4
import Derived.Test.YtcfpilkhjpegcaaK8
import Derived.Test.YtcfpilkhjpegcaaProg
import Derived.Conc.MuLone
import Derived.KernelRfl
import Derived.Defers
namespace Go.Proofs.Ytcfpilkhjpegcaa
end Go.Proofs.Ytcfpilkhjpegcaa

/- The program's host hands its cluster out. -/
namespace Go.Proofs.Ytcfpilkhjpegcaa
open Go.RowKit Go.MuLone

end Go.Proofs.Ytcfpilkhjpegcaa

/- The program's host opens and closes a node. -/
namespace Go.Proofs.Ytcfpilkhjpegcaa
open Go.RowKit Go.MuLone

def openH (C : ClusD) (node : Int) (op : Bool) : ClusD × Int :=
  if inB node 0 ((C.units.length : Int) - 1) then
    match C.units[node.toNat]? with
    | none => (C, 4)
    | some u => if u.opened == op then (C, 2) else if 0 < u.tasks.length then (C, 5) else (⟨C.room, C.units.set node.toNat ⟨op, u.tasks⟩⟩, 0)
  else (C, 4)
theorem openC_ok {C : ClusD} (h : clusOk C = true) (node : Int) (op : Bool) : openC C node op = openH C node op := by unfold openC openH; rw [if_pos h]; rfl
theorem openH_at {C : ClusD} {k : Nat} {op : Bool} {x : UnitD} (h2 : inB (k : Int) 0 ((C.units.length : Int) - 1) = true) (hk : C.units[k]? = some x) :
    openH C k op = if x.opened == op then (C, 2) else if 0 < x.tasks.length then (C, 5) else (⟨C.room, C.units.set k ⟨op, x.tasks⟩⟩, 0) := by
  unfold openH
  rw [if_pos h2, Int.toNat_natCast, hk]
end Go.Proofs.Ytcfpilkhjpegcaa

/- The program opens and closes a node. -/
namespace Go.Proofs.Ytcfpilkhjpegcaa
open Go.RowKit Go.MuLone

end Go.Proofs.Ytcfpilkhjpegcaa
