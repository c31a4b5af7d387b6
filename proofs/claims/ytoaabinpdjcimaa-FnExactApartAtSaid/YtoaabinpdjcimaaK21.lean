/- Raw nodes and a raw move are opened. -/
import Derived.Test.YtoaabinpdjcimaaK15
import Derived.Test.YtoaabinpdjcimaaK20
namespace Go.Proofs.Ytoaabinpdjcimaa
open Go.RowKit Go.ChangeShapes Go.WideShapes Go.Deep Go.Joins
set_option maxRecDepth 100000

section
variable {H : Type} {enc : TypeId × Value → H} {w : World} {base : Nat} {spare : Nat → Bool} {held : Bool}
theorem open_xtt {fuel : Nat} {cs : List Value} {x : DataW H × List MemPlace} (h : DataW.trod enc Try.prog w base spare held fuel 39 cs = some x) : ∃ v xs, cs = [v] ∧ XTT w v xs ∧ ∀ b ∈ xs, ∀ t ∈ b, IdR t.id :=
  open_rx EXB (fun b => ∀ t ∈ b, IdR t.id) (by omega) Try.underlying39 (by kernel_rfl) (fun n cs' y hy _ => by
    obtain ⟨v, ts, hv, hr, hq⟩ := open_xt hy
    exact ⟨ts, ⟨v, hv, hr⟩, hq⟩) h
theorem open_xTT {v : Value} {r : Reach} {b0 : Nat} {d : DataW H} {p : List MemPlace} (hv : Value.okWide Try.prog w r b0 39 v) (h : DataW.Trod enc Try.prog w base spare held 39 v d p) : ∃ xs, XTT w v xs ∧ ∀ t ∈ xs.flatten, IdR t.id := by
  obtain ⟨a, n, c, rfl⟩ := okWide_slice Try.underlying39 hv
  obtain ⟨fuel, hf⟩ := h
  obtain ⟨u, xs, hu, hx, hq⟩ := open_xtt hf
  have e1 : Value.slice a n c = u := by simpa [Value.cells] using hu
  subst e1
  exact ⟨xs, hx, fun t ht => by obtain ⟨b, hb, htb⟩ := List.mem_flatten.1 ht; exact hq b hb t htb⟩
end
end Go.Proofs.Ytoaabinpdjcimaa
