/- The law FnExactDownAll. (Printed by genoe1.py.) -/
import Derived.Test.YtllchacophapoaaDoorK20
import Derived.Test.YtllchacophapoaaDoorK34
import Derived.Test.YtllchacophapoaaDoorK35
namespace Go.Proofs.YtllchacophapoaaDoor
open Go.RowKit
set_option maxRecDepth 4000

theorem DB.fara {w w' : World} {base : Nat} {v : Value} {bs : List (List TaskD)} (h : DB w base v bs) (hq : ∀ q, base ≤ q → q < w.heap.size → w'.heap[q]? = w.heap[q]?) : DB w' base v bs := by
  obtain ⟨us, h1, h2⟩ := h
  exact ⟨us, ODB.far h1 (fun q hb => hq q (Own.lt h1 q hb).1 (Own.lt h1 q hb).2) (fun q hb => hq q (ODB.tlt h1 q hb).1 (ODB.tlt h1 q hb).2) (fun q hb => hq q (ODB.ilt h1 q hb).1 (ODB.ilt h1 q hb).2), h2⟩
theorem valida_w {room : List Int} {bs : List (List TaskD)} (h : binsOk room bs = true) : wTaskSS bs ≤ 1000000 := by
  obtain ⟨_, h1, _, h2⟩ := bins_small h
  have key : ∀ ts : List TaskD, (∀ t ∈ ts, t.need.length = 3) → wTasks ts = 4 * ts.length := by
    intro ts
    induction ts with
    | nil => intro _; rfl
    | cons t ts ih =>
      intro hh
      rw [wTasks_cons, ih (fun x hx => hh x (by simp [hx])), hh t (by simp), List.length_cons]
      omega
  have key2 : ∀ xs : List (List TaskD), (∀ b ∈ xs, wTasks b ≤ 3600) → sumN wTasks xs ≤ 3600 * xs.length := by
    intro xs
    induction xs with
    | nil => intro _; simp [sumN]
    | cons x xs ih =>
      intro hh
      have h3 := ih (fun b hb => hh b (by simp [hb]))
      have h4 := hh x (by simp)
      simp only [sumN, List.map_cons, List.sum_cons, List.length_cons] at h3 ⊢
      omega
  have h5 := key2 bs (fun b hb => by
    have h6 := h2 b hb
    rw [key b (fun t ht => (h6.2.2 t ht).1)]
    have := h6.2.1
    omega)
  unfold wTaskSS
  omega
theorem tasks_bd {ts : List TaskD} (h : wTasks ts ≤ 1048576) : ts.length ≤ 4000000 ∧ ∀ t ∈ ts, t.need.length ≤ 4000000 := by
  have h1 : wTaskSS [ts] ≤ 1048577 := by
    simp only [wTaskSS, sumN, List.map_cons, List.map_nil, List.sum_cons, List.sum_nil, List.length_cons, List.length_nil]
    omega
  have h2 := wTaskSS_bd h1
  have h3 := h2.2.2 ts (by simp)
  exact ⟨Nat.le_trans h3.1 (by omega), fun t ht => Nat.le_trans (h3.2 t ht) (by omega)⟩

theorem nil_w : wTaskSS [] ≤ 1000000 := by simp [wTaskSS, sumN]
theorem firstAllN_w (room : List Int) (ts : List TaskD) : wTaskSS (firstAllN room ts) ≤ 1000000 := by
  unfold firstAllN
  split
  · rename_i hq
    exact valida_w (allBy_ok (chooses_first room) hq)
  · exact nil_w
theorem bestAllN_w (room : List Int) (ts : List TaskD) : wTaskSS (bestAllN room ts) ≤ 1000000 := by
  unfold bestAllN
  split
  · rename_i hq
    exact valida_w (allBy_ok (chooses_best room) hq)
  · exact nil_w
theorem downAllN_w (room : List Int) (ts : List TaskD) : wTaskSS (downAllN room ts) ≤ 1000000 := firstAllN_w _ _
theorem downBestN_w (room : List Int) (ts : List TaskD) : wTaskSS (downBestN room ts) ≤ 1000000 := bestAllN_w _ _
theorem fewer_w {a b : List (List TaskD)} (ha : wTaskSS a ≤ 1000000) (hb : wTaskSS b ≤ 1000000) : wTaskSS (fewer a b) ≤ 1000000 := by
  unfold fewer
  split
  · exact hb
  · exact ha
theorem fewestN_w (room : List Int) (ts : List TaskD) : wTaskSS (fewestN room ts) ≤ 1000000 := fewer_w (fewer_w (fewer_w (firstAllN_w _ _) (bestAllN_w _ _)) (downAllN_w _ _)) (downBestN_w _ _)

end Go.Proofs.YtllchacophapoaaDoor
