/- The reference's first node with room, and the next move. -/
import Derived.Test.YtllchacophapoaaDoorK10
namespace Go.Proofs.YtllchacophapoaaDoor
open Go.RowKit
set_option maxRecDepth 4000

/-- the next move out of the first n nodes -/
def nextTo (room : List Int) (bs : List (List TaskD)) (n : Nat) : Option MoveD := ((List.range n).reverse.flatMap fun i => (bs.getD i []).map fun t => (t, i)).findSome? (tryOne room bs)
theorem nextTo_all (room : List Int) (bs : List (List TaskD)) : nextTo room bs bs.length = nextMv room bs := rfl
theorem nextTo_succ (room : List Int) (bs : List (List TaskD)) (n : Nat) : nextTo room bs (n + 1) = (((bs.getD n []).map fun t => (t, n)).findSome? (tryOne room bs)).or (nextTo room bs n) := by
  unfold nextTo
  rw [List.range_succ, List.reverse_append, List.reverse_singleton, List.singleton_append, List.flatMap_cons, List.findSome?_append]
theorem nextTo_zero (room : List Int) (bs : List (List TaskD)) : nextTo room bs 0 = none := rfl
theorem tryOne_zero (room : List Int) (bs : List (List TaskD)) (t : TaskD) : tryOne room bs (t, 0) = none := by
  unfold tryOne
  rw [if_neg]
  show ¬ 0 ≤ firstAt room (bs.take 0) t
  rw [List.take_zero]
  unfold firstAt
  simp
theorem nextTo_one (room : List Int) (bs : List (List TaskD)) : nextTo room bs 1 = none := by
  rw [nextTo_succ, nextTo_zero, Option.or_none, List.findSome?_eq_none_iff]
  intro p hp
  obtain ⟨t, _, rfl⟩ := List.mem_map.1 hp
  exact tryOne_zero room bs t
theorem row_none {room : List Int} {bs : List (List TaskD)} {n : Nat} {b : List TaskD} (hb : bs[n]? = some b) (h : ∀ (j : Nat) t, b[j]? = some t → firstAt room (bs.take n) t < 0) : nextTo room bs (n + 1) = nextTo room bs n := by
  rw [nextTo_succ, List.getD_eq_getElem?_getD, hb]
  have : ((b.map fun t => (t, n)).findSome? (tryOne room bs)) = none := by
    rw [List.findSome?_eq_none_iff]
    intro p hp
    obtain ⟨t, ht, rfl⟩ := List.mem_map.1 hp
    obtain ⟨j, hj⟩ := List.getElem?_of_mem ht
    unfold tryOne
    rw [if_neg (by have := h j t hj; show ¬ 0 ≤ firstAt room (bs.take n) t; omega)]
  show (((b.map fun t => (t, n)).findSome? (tryOne room bs)).or _) = _
  rw [this]
  rfl
theorem row_hit {room : List Int} {bs : List (List TaskD)} {n k : Nat} {b : List TaskD} {x : TaskD} (hb : bs[n]? = some b) (hx : b[k]? = some x) (h : ∀ (j : Nat) t, j < k → b[j]? = some t → firstAt room (bs.take n) t < 0) (h0 : 0 ≤ firstAt room (bs.take n) x) : nextTo room bs (n + 1) = some ⟨x.id, firstAt room (bs.take n) x⟩ := by
  rw [nextTo_succ, List.getD_eq_getElem?_getD, hb]
  have hk := (List.getElem?_eq_some_iff.1 hx).1
  have : ((b.map fun t => (t, n)).findSome? (tryOne room bs)) = some ⟨x.id, firstAt room (bs.take n) x⟩ := by
    have e : b = b.take k ++ x :: b.drop (k + 1) := by
      have h2 := (List.getElem?_eq_some_iff.1 hx).2
      rw [← h2, ← List.drop_eq_getElem_cons hk, List.take_append_drop]
    have e1 : ((b.take k).map fun t => (t, n)).findSome? (tryOne room bs) = none := by
      rw [List.findSome?_eq_none_iff]
      intro p hp
      obtain ⟨t, ht, rfl⟩ := List.mem_map.1 hp
      obtain ⟨j, hj⟩ := List.getElem?_of_mem ht
      rw [List.getElem?_take] at hj
      split at hj
      · rename_i hjk
        unfold tryOne
        rw [if_neg (by have := h j t hjk hj; show ¬ 0 ≤ firstAt room (bs.take n) t; omega)]
      · cases hj
    rw [e, List.map_append, List.findSome?_append, e1]
    show (List.findSome? (tryOne room bs) ((x, n) :: _)) = _
    rw [List.findSome?_cons]
    unfold tryOne
    simp only
    rw [if_pos h0]
  show (((b.map fun t => (t, n)).findSome? (tryOne room bs)).or _) = _
  rw [this]
  rfl

end Go.Proofs.YtllchacophapoaaDoor
