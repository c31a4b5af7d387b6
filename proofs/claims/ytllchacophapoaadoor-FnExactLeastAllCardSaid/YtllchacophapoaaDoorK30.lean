/- Raw tasks are opened. -/
import Derived.Test.YtllchacophapoaaDoorK15
namespace Go.Proofs.YtllchacophapoaaDoor
open Go.RowKit Go.ChangeShapes Go.WideShapes Go.Deep Go.Joins
set_option maxRecDepth 100000

section
variable {H : Type} {enc : TypeId × Value → H} {w : World} {base : Nat} {spare : Nat → Bool} {held : Bool}
theorem open_xLT {v : Value} {r : Reach} {b0 : Nat} {d : DataW H} {p : List MemPlace} (hv : Value.okWide Tryd.prog w r b0 23 v) (h : DataW.Trod enc Tryd.prog w base spare held 23 v d p) : ∃ xs, XT w v xs ∧ ∀ t ∈ xs, IdR t.id := by
  obtain ⟨a, n, c, rfl⟩ := okWide_slice Tryd.underlying23 hv
  obtain ⟨fuel, hf⟩ := h
  obtain ⟨u, xs, hu, hx, hq⟩ := open_xt hf
  have e1 : Value.slice a n c = u := by simpa [Value.cells] using hu
  subst e1
  exact ⟨xs, hx, hq⟩
end
end Go.Proofs.YtllchacophapoaaDoor
