/- The beginning and the end of a law that starts goroutines. -/
import Derived.Test.YtcfpilkhjpegcaaK67
import Derived.Test.YtcfpilkhjpegcaaK21
import Derived.Conc.LeavingOf
namespace Go.Proofs.Ytcfpilkhjpegcaa
open Go Go.Conc Go.ConcN Go.RowKit

theorem XI.sup {w w' : World} {v : Value} {xs : List Int} (h : XI w v xs) (hs : Sup w w') : XI w' v xs := by
  have := XI.ext h hs.ext
  exact this
theorem XU.sup {w w' : World} {v : Value} {xs : List UnitD} (h : XU w v xs) (hs : Sup w w') : XU w' v xs := by
  have := XU.ext h hs.ext
  exact this
theorem ClusX.sup {w w' : World} {v : Value} {C : ClusD} (h : ClusX w v C) (hs : Sup w w') : ClusX w' v C :=
  let ⟨rv, uv, h1, h2, h3⟩ := h; ⟨rv, uv, h1, h2.sup hs, h3.sup hs⟩
theorem ClusX.form {w : World} {cv : Value} {C : ClusD} (h : ClusX w cv C) : ∃ A c B d, cv = .agg #[.slice A C.room.length c, .slice B C.units.length d] := by
  obtain ⟨rv, uv, rfl, hr, hu⟩ := h
  obtain ⟨A, c, rfl, _⟩ := hr
  obtain ⟨B, d, rfl, _⟩ := hu
  exact ⟨A, c, B, d, rfl⟩

/-- What a law's run comes to. -/
def LawPost (W : World) (v : Value) (w' : World) : Prop := v = .bool true ∧ Sup W w'
/-- A run that ends well. -/
def GoodRun (g : Goroutine) (W : World) (Post : Value → World → Prop) : Prop :=
  ∃ N last o w' t', runNT Try.prog (N + 1) (solo g W) #[] = (.ended o w', t') ∧ runN Try.prog N (solo g W) = .next last ∧ step Try.prog last = .ended o w' ∧ Go.Conc.Good Try.prog Post last o w' t'
theorem Wn.begin {g : Goroutine} {W : World} {Post : Value → World → Prop} (h : Wn Try.prog Post (fun _ => False) g W) : GoodRun g W Post := by
  refine h W #[g] none #[] (fun _ => 0) ⟨rfl, rfl, rfl, rfl, rfl, fun _ _ => rfl, fun _ h => h.elim⟩ rfl ⟨⟨fun i x hi hx => ?_, fun j hj => rfl⟩, ⟨past_nil.clean, fun i a h => ?_, past_nil.over, past_nil.hears, fun op h => ?_⟩, fun i op x h => ?_, fun op h => ?_, fun op h => ?_⟩
  · have : #[g][i]? = none := Array.getElem?_eq_none (by simp; omega)
    rw [this] at hx
    cases hx
  · simp [touchAt, Trace.act?] at h
  · simp at h
  · simp at h
  · simp at h
  · simp at h
theorem Wn.doneK {D : Nat → Prop} {f : FuncId} {fn : Func} {t : Tmp} (hf : Try.prog.funcs[f]? = some fn) (hr : fn.results = #[.tmp t]) (hi : Try.prog.inits.idxOf? f = none) {tmps : Array Value} {todo : List Item} {W w : World} (hv : tmps.getD t undef = .bool true) (hS : Sup W w) (hD : ∀ b, D b → W.heap.size ≤ b) :
    Wn Try.prog (LawPost W) D (G { (base f).at ⟨tmps, []⟩ todo with mode := .returning } []) w :=
  Wn.done hf hr hi fun v hs => ⟨hv, hs.os.trans hS.os, hs.output.trans hS.output, by rw [show v.heap.size = w.heap.size from hs.size]; exact hS.size, fun k hk => by
    have := hs.same k (fun hd => by have := hD k hd; omega)
    exact this.trans (hS.block k hk)⟩
end Go.Proofs.Ytcfpilkhjpegcaa
