/- The reference's scaling. -/
import Derived.Test.YtllchacophapoaaDoorSp6b
import Derived.Test.YtllchacophapoaaDoorK1
namespace Go.Proofs.YtllchacophapoaaDoor
open Go.RowKit
set_option maxRecDepth 4000

theorem Nn.at_ {M : Int} {xs : List Int} (h : Nn M xs) {j : Nat} {x : Int} (hx : Hid (xs[j]? = some x)) : 0 ≤ x ∧ x ≤ M := h x (List.mem_of_getElem? hx)

theorem min_if (t x : Int) : (if x < t then x else t) = min t x := by simp only [Int.min_def]; split <;> split <;> omega

end Go.Proofs.YtllchacophapoaaDoor
