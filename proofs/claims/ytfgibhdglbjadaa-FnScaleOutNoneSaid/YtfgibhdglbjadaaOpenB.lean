/- Bytes that came in, opened. -/
import Derived.Test.YtfgibhdglbjadaaOpen
import Derived.Test.YtfgibhdglbjadaaDr1
namespace Go.Proofs.Ytfgibhdglbjadaa
open Go.RowKit Go.ChangeShapes Go.WideShapes Go.Deep Go.Joins
set_option maxRecDepth 100000

theorem byte_of_wf {x : Int} (h : (Lit.int .u8 x).wf = true) : 0 ≤ x ∧ x ≤ 255 := by
  simp [Lit.wf, IntKind.min, IntKind.max, IntKind.signed, IntKind.bits] at h
  omega
section
variable {H : Type} {enc : TypeId × Value → H} {w : World} {base : Nat} {spare : Nat → Bool} {held : Bool}
theorem open_xB {v : Value} {r : Reach} {b0 : Nat} {d : DataW H} {p : List MemPlace} (hv : Value.okWide Try.prog w r b0 22 v) (h : DataW.Trod enc Try.prog w base spare held 22 v d p) : ∃ xs, XBy w v xs := by
  obtain ⟨a, n, c, rfl⟩ := okWide_slice Try.underlying22 hv
  obtain ⟨fuel, hf⟩ := h
  obtain ⟨u, xs, hu, hx, _⟩ := open_rx (size := 1) EBy (fun _ => True) (by omega) Try.underlying22 (by kernel_rfl) (fun n cs' y hy _ => by
    obtain ⟨z, rfl, _, hw⟩ := DataW.trod_int Try.underlying5 hy
    exact ⟨z, ⟨rfl, byte_of_wf hw⟩, trivial⟩) hf
  have e1 : Value.slice a n c = u := by simpa [Value.cells] using hu
  subst e1
  exact ⟨xs, hx⟩
end
end Go.Proofs.Ytfgibhdglbjadaa
