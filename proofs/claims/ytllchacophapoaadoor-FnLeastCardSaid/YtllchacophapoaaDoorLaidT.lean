/- The library's tables of bits: what a row's list gives the walks; the door's own heap. -/
import Derived.Test.YtllchacophapoaaDoorK40
import Derived.Test.YtllchacophapoaaDoorRows
import Derived.Test.YtllchacophapoaaDoorChecked
import Derived.ProofKit
import Derived.LaidMore
import Derived.Stop.LaidErr
import Derived.Stop.Joined
import Derived.Lib.LaidTab
namespace Go.Proofs.YtllchacophapoaaDoor
open Go.ChangeShapes Go.WideShapes Go.ChangeAt Go.RowKit

/-- what the rows list -/
abbrev laidT : List (String × DataW Unit) := [("math/bits.deBruijn32tab", Rows.laid_math_bits_deBruijn32tab), ("math/bits.deBruijn64tab", Rows.laid_math_bits_deBruijn64tab)]
theorem gTab : Tryd.prog.globalNamed "math/bits.deBruijn64tab" = some 1 := by kernel_rfl
theorem tTab : (Tryd.prog.globals[1]?).map (·.type) = some 113 := by kernel_rfl
theorem tab_data : (Rows.laid_math_bits_deBruijn64tab : DataW Unit) = Lib.tabData .u8 deB := rfl
set_option maxRecDepth 100000 in
theorem door_met (os : Os) (args : Array Value) : laidMetH Tryd.prog laidT ((World.doorLaid Tryd.prog 400 os).forCall (fun _ _ => 0) ⟨#[], args, []⟩).memory :=
  laidMetH_of_parts3 (fuel := 8) (laidMet_of_run' 8 (by kernel_rfl) (by kernel_rfl)) (by kernel_rfl) (by kernel_rfl)
theorem of_laid {W : World} (h : laidMetH Tryd.prog laidT W) : TabOk W := by
  rw [MakeChecks.laidMetH_plain _ _ _ (by kernel_rfl)] at h
  have h1 := laidMet.tail h
  rw [tab_data] at h1
  have ht := Lib.tabIs_of_head gTab tTab Tryd.underlying113 Tryd.underlying5 (by kernel_rfl) (by kernel_rfl) h1
  intro j x hj
  have hl := (List.getElem?_eq_some_iff.1 hj).1
  have hc := ht.cell gTab j hl
  rw [List.getD_eq_getElem?_getD, hj] at hc
  exact hc

end Go.Proofs.YtllchacophapoaaDoor
