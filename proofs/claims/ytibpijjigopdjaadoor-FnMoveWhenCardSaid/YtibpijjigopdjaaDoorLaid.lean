/- The variable errMove: what a row's list gives the walks; the door's own heap. -/
import Derived.Test.YtibpijjigopdjaaDoorK9
import Derived.Test.YtibpijjigopdjaaDoorRows
import Derived.Test.YtibpijjigopdjaaDoorChecked
import Derived.ProofKit
import Derived.LaidMore
import Derived.Stop.LaidErr
import Derived.Stop.Joined
namespace Go.Proofs.YtibpijjigopdjaaDoor
open Go.ChangeShapes Go.WideShapes Go.ChangeAt Go.RowKit

/-- what the rows list -/
abbrev laidE : List (String × DataW Unit) := [("loop.example/vectorpacker/impl.errMove", Rows.laid_loop_example_vectorpacker_impl_errMove)]
theorem gErr : Tryd.prog.globalNamed "loop.example/vectorpacker/impl.errMove" = some 0 := by kernel_rfl
theorem tErr : (Tryd.prog.globals[0]?).map (·.type) = some 84 := by kernel_rfl
theorem star_err : "*" ++ "errors.errorString" = "*errors.errorString" := by decide
theorem row_err (u : TypeId) (h : Tryd.prog.typeName? 3 u = some "*errors.errorString") : u = 156 :=
  typeName_ptr_named (nm := "errors.errorString") (by rw [star_err]; kernel_rfl) (by kernel_rfl) (by decide) u (by rw [star_err]; exact h)
theorem cells_err : Tryd.prog.cellsOf 182 = 1 := by kernel_rfl
theorem cells_str : Tryd.prog.cellsOf 9 = 1 := by kernel_rfl
set_option maxRecDepth 100000 in
theorem door_met (os : Os) (args : Array Value) : laidMetH Tryd.prog laidE ((World.doorLaid Tryd.prog 400 os).forCall (fun _ _ => 0) ⟨#[], args, []⟩).memory :=
  laidMetH_of_parts3 (fuel := 8) (laidMet_of_run' 8 (by kernel_rfl) (by kernel_rfl)) (by kernel_rfl) (by kernel_rfl)
theorem of_laid {W : World} (h : laidMetH Tryd.prog laidE W) : ∃ a : Addr, W.var? Tryd.prog "loop.example/vectorpacker/impl.errMove" = some #[errV a] ∧ W.cell? ⟨0, 0, none⟩ = some (errV a) := by
  rw [MakeChecks.laidMetH_plain _ _ _ (by kernel_rfl)] at h
  obtain ⟨a, s, hv, _⟩ := laid_sentinel h gErr tErr Tryd.underlying84 row_err Tryd.underlying156 Tryd.underlying182 rfl rfl Tryd.underlying9 cells_err cells_str
  exact ⟨a, hv, by simpa using World.var?_cell gErr hv 0⟩
theorem var_ext {W W' : World} {cs : Array Value} {n : String} (h : W.var? Tryd.prog n = some cs) (hx : Ext W W') : W'.var? Tryd.prog n = some cs := by
  unfold World.var? at h ⊢
  cases hg : Tryd.prog.globalNamed n with
  | none => simp [hg] at h
  | some g =>
    simp only [hg, Option.bind_some] at h ⊢
    have hlt : g < W.heap.size := by
      rcases Nat.lt_or_ge g W.heap.size with h' | h'
      · exact h'
      · simp [Array.getElem?_eq_none h'] at h
    rw [hx.block g hlt]
    exact h
theorem var_read {H : Type} (enc : TypeId × Value → H) {W : World} {a : Addr} (h : W.var? Tryd.prog "loop.example/vectorpacker/impl.errMove" = some #[errV a]) (sp : Nat → Bool) :
    DataW.TrodVars enc Tryd.prog W sp ["loop.example/vectorpacker/impl.errMove"] [tok enc (errV a)] [.cell 0 0] :=
  vars_read1 enc gErr tErr Tryd.underlying84 h trivial sp

end Go.Proofs.YtibpijjigopdjaaDoor
