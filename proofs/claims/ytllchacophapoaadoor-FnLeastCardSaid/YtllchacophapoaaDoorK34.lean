/- The reference's first fit and best fit of all tasks. (Printed by genoc1.py.) -/
import Derived.Test.YtllchacophapoaaDoorK32
import Derived.Test.YtllchacophapoaaDoorK33
import Derived.Test.YtllchacophapoaaDoorK13
import Derived.Test.YtllchacophapoaaDoorK28
import Derived.Test.YtllchacophapoaaDoorK5
namespace Go.Proofs.YtllchacophapoaaDoor
open Go.RowKit
set_option maxRecDepth 4000

theorem bestTo_nofit {room : List Int} {bs : List (List TaskD)} {x : TaskD} {k : Nat} {y : List TaskD} (h : bs[k]? = some y) (hf : l11fits room y x = false) : bestTo room bs x (k + 1) = bestTo room bs x k := by
  have e : bs.getD k [] = y := by rw [List.getD_eq_getElem?_getD, h]; rfl
  have e3 : bestTo room bs x (k + 1) = if l11fits room (bs.getD k []) x then (match bestTo room bs x k with | none => some k | some b => if scoreAt room bs x b < scoreAt room bs x k then some k else some b) else bestTo room bs x k := rfl
  rw [e3, e, hf]
  rfl
theorem bestTo_new {room : List Int} {bs : List (List TaskD)} {x : TaskD} {k : Nat} {y : List TaskD} (h : bs[k]? = some y) (hf : l11fits room y x = true) (hb : bestTo room bs x k = none) : bestTo room bs x (k + 1) = some k := by
  have e : bs.getD k [] = y := by rw [List.getD_eq_getElem?_getD, h]; rfl
  have e3 : bestTo room bs x (k + 1) = if l11fits room (bs.getD k []) x then (match bestTo room bs x k with | none => some k | some b => if scoreAt room bs x b < scoreAt room bs x k then some k else some b) else bestTo room bs x k := rfl
  rw [e3, e, hf, hb]
  rfl
theorem bestTo_more {room : List Int} {bs : List (List TaskD)} {x : TaskD} {k j : Nat} {y yj : List TaskD} (h : bs[k]? = some y) (hj : bs[j]? = some yj) (hf : l11fits room y x = true) (hb : bestTo room bs x k = some j) :
    bestTo room bs x (k + 1) = if scoreL room yj x < scoreL room y x then some k else some j := by
  have e : bs.getD k [] = y := by rw [List.getD_eq_getElem?_getD, h]; rfl
  have e2 : bs.getD j [] = yj := by rw [List.getD_eq_getElem?_getD, hj]; rfl
  have e3 : bestTo room bs x (k + 1) = if l11fits room (bs.getD k []) x then (match bestTo room bs x k with | none => some k | some b => if scoreAt room bs x b < scoreAt room bs x k then some k else some b) else bestTo room bs x k := rfl
  rw [e3, e, hf, hb]
  show (if scoreL room (bs.getD j []) x < scoreL room (bs.getD k []) x then some k else some j) = _
  rw [e, e2]

end Go.Proofs.YtllchacophapoaaDoor

/- The reference's order of tasks. -/
namespace Go.Proofs.YtllchacophapoaaDoor
open Go.RowKit
set_option maxRecDepth 4000

theorem insTo_len (ts : List TaskD) (x : TaskD) : ∀ k, (insTo ts x k).1.length ≤ k + 1 ∧ ((insTo ts x k).2 = false → (insTo ts x k).1.length ≤ k)
  | 0 => by simp [insTo]
  | k + 1 => by
    have ih := insTo_len ts x k
    have e : insTo ts x (k + 1) = if !(insTo ts x k).2 && beforeT x (ts.getD k default) then ((insTo ts x k).1 ++ [x, ts.getD k default], true) else ((insTo ts x k).1 ++ [ts.getD k default], (insTo ts x k).2) := rfl
    rw [e]
    cases hd : (insTo ts x k).2 with
    | true =>
      rw [hd] at ih
      refine ⟨?_, fun h => ?_⟩
      · show ((insTo ts x k).1 ++ [ts.getD k default]).length ≤ _
        rw [List.length_append, List.length_singleton]
        omega
      · cases h
    | false =>
      have h2 := ih.2 hd
      split
      · refine ⟨?_, fun h => ?_⟩
        · show ((insTo ts x k).1 ++ [x, ts.getD k default]).length ≤ _
          rw [List.length_append]
          simp
          omega
        · cases h
      · refine ⟨?_, fun _ => ?_⟩
        · show ((insTo ts x k).1 ++ [ts.getD k default]).length ≤ _
          rw [List.length_append, List.length_singleton]
          omega
        · show ((insTo ts x k).1 ++ [ts.getD k default]).length ≤ _
          rw [List.length_append, List.length_singleton]
          omega
theorem insTo_done {ts : List TaskD} {x y : TaskD} {k : Nat} (h : ts[k]? = some y) (hd : (insTo ts x k).2 = true) : insTo ts x (k + 1) = ((insTo ts x k).1 ++ [y], true) := by
  have e : insTo ts x (k + 1) = if !(insTo ts x k).2 && beforeT x (ts.getD k default) then ((insTo ts x k).1 ++ [x, ts.getD k default], true) else ((insTo ts x k).1 ++ [ts.getD k default], (insTo ts x k).2) := rfl
  have e2 : ts.getD k default = y := by rw [List.getD_eq_getElem?_getD, h]; rfl
  rw [e, hd, e2]
  rfl
theorem insTo_now {ts : List TaskD} {x y : TaskD} {k : Nat} (h : ts[k]? = some y) (hd : (insTo ts x k).2 = false) (hb : beforeT x y = true) : insTo ts x (k + 1) = (((insTo ts x k).1 ++ [x]) ++ [y], true) := by
  have e : insTo ts x (k + 1) = if !(insTo ts x k).2 && beforeT x (ts.getD k default) then ((insTo ts x k).1 ++ [x, ts.getD k default], true) else ((insTo ts x k).1 ++ [ts.getD k default], (insTo ts x k).2) := rfl
  have e2 : ts.getD k default = y := by rw [List.getD_eq_getElem?_getD, h]; rfl
  rw [e, hd, e2, hb]
  simp
theorem insTo_not {ts : List TaskD} {x y : TaskD} {k : Nat} (h : ts[k]? = some y) (hd : (insTo ts x k).2 = false) (hb : beforeT x y = false) : insTo ts x (k + 1) = ((insTo ts x k).1 ++ [y], false) := by
  have e : insTo ts x (k + 1) = if !(insTo ts x k).2 && beforeT x (ts.getD k default) then ((insTo ts x k).1 ++ [x, ts.getD k default], true) else ((insTo ts x k).1 ++ [ts.getD k default], (insTo ts x k).2) := rfl
  have e2 : ts.getD k default = y := by rw [List.getD_eq_getElem?_getD, h]; rfl
  rw [e, hd, e2, hb]
  rfl

end Go.Proofs.YtllchacophapoaaDoor

/- The reference's TasksSort, DownAll, DownBest, FewestAll. -/
namespace Go.Proofs.YtllchacophapoaaDoor
open Go.RowKit
set_option maxRecDepth 4000

theorem AllOk.take {ts : List TaskD} (h : AllOk ts) (k : Nat) : AllOk (ts.take k) := fun t ht => h t (List.mem_of_mem_take ht)
theorem AllOk.sort {ts : List TaskD} (h : AllOk ts) : AllOk (sortT ts) := AllOk.perm h (sortT_perm ts)

end Go.Proofs.YtllchacophapoaaDoor
