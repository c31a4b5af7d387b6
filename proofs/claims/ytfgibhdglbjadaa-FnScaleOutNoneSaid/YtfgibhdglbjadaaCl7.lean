/- The reference lets a task depart. -/
import Derived.Test.YtfgibhdglbjadaaCl6
namespace Go.Proofs.Ytfgibhdglbjadaa
open Go.RowKit
set_option maxRecDepth 4000

/-- a task departs; the code -/
def departC (C : ClusD) (id : Int) : ClusD × Int :=
  if clusOk C then
    if whereL (C.units.map (·.tasks)) id < 0 then (C, 4)
    else match C.units[(whereL (C.units.map (·.tasks)) id).toNat]? with
      | none => (C, 4)
      | some u => (⟨C.room, C.units.set (whereL (C.units.map (·.tasks)) id).toNat ⟨u.opened, takeL id u.tasks⟩⟩, 0)
  else (⟨[], []⟩, 1)
theorem whereL_lt (bs : List (List TaskD)) (id : Int) : whereL bs id < bs.length := by
  unfold whereL
  split
  · rename_i i h
    rw [List.findIdx?_eq_some_iff_getElem] at h
    have := h.1
    omega
  · omega
theorem whereL_ge (bs : List (List TaskD)) (id : Int) : -1 ≤ whereL bs id := by
  unfold whereL
  split <;> omega
theorem OUV.set1 {w : World} {base g n c : Nat} {ps : List (UnitD × Value)} (h : OUV w base (.slice (some ⟨g, 0, none⟩) n c) ps) {j : Nat} {x : UnitD} {v : Value} (hj : ps[j]? = some (x, v)) (ts : List TaskD) (tv : Value) (ht : OT w base tv ts) :
    OUV (w.setCell ⟨g, j * 2 + 1, none⟩ tv) base (.slice (some ⟨g, 0, none⟩) n c) (ps.set j (⟨x.opened, ts⟩, tv)) ∧ SameT (fun t => t ≠ 56) w (w.setCell ⟨g, j * 2 + 1, none⟩ tv) :=
  Own.set (EUV.ok base) EUV.ne h hj (i := 1) (u := tv) (x' := (⟨x.opened, ts⟩, tv)) (by omega) (fun w' hw cs hl ⟨he, _⟩ => ⟨by rw [he]; rfl, ht.same ET.ok (hw.mono (fun t ht => ht))⟩)
end Go.Proofs.Ytfgibhdglbjadaa
