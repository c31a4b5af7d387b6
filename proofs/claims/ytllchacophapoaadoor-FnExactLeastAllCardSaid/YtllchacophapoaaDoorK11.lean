/- The program's MoveDo and MovesDo. -/
import Derived.Test.YtllchacophapoaaDoorK9
import Derived.Test.YtllchacophapoaaDoorK10
namespace Go.Proofs.YtllchacophapoaaDoor
open Go.RowKit
set_option maxRecDepth 4000

/-- nodes whose rows are all the call's own, and apart -/
def DB (w : World) (base : Nat) (v : Value) (bs : List (List TaskD)) : Prop := ∃ us, ODB w base v us ∧ us.map BinW.d = bs ∧ (rowBs us).Nodup ∧ (binNs us).Nodup
theorem DB.read {w : World} {base : Nat} {v : Value} {bs : List (List TaskD)} (h : DB w base v bs) : RB w v bs := by
  obtain ⟨us, h1, h2, _⟩ := h
  rw [← h2]; exact h1.read
theorem DB.ext {w w' : World} {base : Nat} {v : Value} {bs : List (List TaskD)} (h : DB w base v bs) (ha : Ext w w') : DB w' base v bs := let ⟨us, h1, h2⟩ := h; ⟨us, Own.ext (EDB.ok _) h1 ha, h2⟩
theorem DB.low {w : World} {base base' : Nat} {v : Value} {bs : List (List TaskD)} (h : DB w base v bs) (hb : base' ≤ base) : DB w base' v bs := let ⟨us, h1, h2⟩ := h; ⟨us, ODB.low h1 hb, h2⟩
theorem DB.none_ (w : World) (base : Nat) : DB w base (.slice none 0 0) [] := ⟨[], Own.none_ _ _ _ _ _, rfl, by simp [rowBs], by simp [binNs]⟩
def RetMBD (w : World) (r : List (List TaskD) × Bool) (e : Ending) (w' : World) : Prop := ∃ v, e = .returned (.tuple #[v, .bool r.2]) ∧ DB w' w.heap.size v r.1 ∧ Ext w w'
def RetMND (w : World) (r : List (List TaskD) × Int) (e : Ending) (w' : World) : Prop := ∃ v, e = .returned (.tuple #[v, .int .i64 r.2]) ∧ DB w' w.heap.size v r.1 ∧ Ext w w'

end Go.Proofs.YtllchacophapoaaDoor

/- The program's MovesDo. -/
namespace Go.Proofs.YtllchacophapoaaDoor
open Go.RowKit
set_option maxRecDepth 4000

end Go.Proofs.YtllchacophapoaaDoor
