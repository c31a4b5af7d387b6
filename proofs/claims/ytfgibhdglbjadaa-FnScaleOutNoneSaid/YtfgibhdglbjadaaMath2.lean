/- What a valid cluster is. No program in sight. -/
import Derived.Test.YtfgibhdglbjadaaMath
namespace Go.Proofs.Ytfgibhdglbjadaa

theorem clusOk_bins {c : ClusD} (h : clusOk c = true) : binsOk c.room (c.units.map (·.tasks)) = true := by
  simp only [clusOk, Bool.and_eq_true] at h; exact h.2.2
theorem clusOk_len {c : ClusD} (h : clusOk c = true) : 1 ≤ c.units.length ∧ c.units.length ≤ 10 := by
  simp only [clusOk, Bool.and_eq_true] at h
  have := h.2.1
  simp [inB] at this
  omega
theorem binsOk_tk {room : List Int} {bs : List (List TaskD)} (h : binsOk room bs = true) : tasksOk room bs.flatten = true := by simp only [binsOk, Bool.and_eq_true] at h; exact h.1
theorem binsOk_fits {room : List Int} {bs : List (List TaskD)} (h : binsOk room bs = true) {b : List TaskD} (hb : b ∈ bs) : fitsL (loadL b) room = true := by
  simp only [binsOk, Bool.and_eq_true, List.all_eq_true] at h; exact h.2.2 b hb
theorem clusOk_room {c : ClusD} (h : clusOk c = true) : roomOk c.room = true := tasksOk_room (binsOk_tk (clusOk_bins h))
theorem clusOk_unit {c : ClusD} (h : clusOk c = true) {u : UnitD} (hu : u ∈ c.units) : GoodTs u.tasks ∧ fitsL (loadL u.tasks) c.room = true := by
  have hb : u.tasks ∈ c.units.map (·.tasks) := List.mem_map.2 ⟨u, hu, rfl⟩
  exact ⟨binsOk_tasks (binsOk_tk (clusOk_bins h)) hb, binsOk_fits (clusOk_bins h) hb⟩
theorem fitsL_at {a b : List Int} (h : fitsL a b = true) {i : Nat} (hi : i < 3) : a.getD i 0 ≤ b.getD i 0 := by
  simp only [fitsL, fitsTo, List.all_eq_true] at h
  simpa using h i (by simpa using hi)
theorem fitsL_of {a b : List Int} (h : ∀ i, i < 3 → a.getD i 0 ≤ b.getD i 0) : fitsL a b = true := by
  simp only [fitsL, fitsTo, List.all_eq_true]
  intro i hi
  simpa using h i (by simpa using hi)
def Nn (M : Int) (xs : List Int) : Prop := ∀ x ∈ xs, 0 ≤ x ∧ x ≤ M
theorem left_nn {room : List Int} {ts : List TaskD} (hr : vecOk room = true) (hg : GoodTs ts) (hf : fitsL (loadL ts) room = true) : Nn 10000000 (leftL room ts) := by
  intro x hx
  simp only [leftL, addL, addTo, List.mem_map] at hx
  obtain ⟨i, hi, rfl⟩ := hx
  have h1 := fitsL_at hf (i := i) (by simpa using hi)
  have h2 := (load_bd hg).getD (by omega) i
  have h3 := (vecOk_bd hr).getD (by omega) i
  omega
theorem vecOk_nn {xs : List Int} (h : vecOk xs = true) : Nn 10000000 xs := fun x hx => by have := vecOk_mem h x hx; omega
theorem leftL_len (room : List Int) (ts : List TaskD) : (leftL room ts).length = 3 := addL_len _ _ _

theorem Nn.getD {M : Int} {xs : List Int} (h : Nn M xs) (hM : 0 ≤ M) (i : Nat) : 0 ≤ xs.getD i 0 ∧ xs.getD i 0 ≤ M := by
  rw [List.getD_eq_getElem?_getD]
  cases hx : xs[i]? with
  | none => simp; omega
  | some x => exact h x (List.mem_of_getElem? hx)
theorem timesTo_bd {M : Int} {left need : List Int} (hl : Nn M left) (hM : 0 ≤ M) : ∀ k, 0 ≤ timesTo left need k ∧ timesTo left need k ≤ 20
  | 0 => by simp [timesTo]
  | k + 1 => by
    have ih := timesTo_bd (need := need) hl hM k
    have e : timesTo left need (k + 1) = if 0 < need.getD k 0 then min (timesTo left need k) (left.getD k 0 / need.getD k 0) else timesTo left need k := by
      unfold timesTo; rw [List.range_succ, List.foldl_append]; rfl
    rw [e]
    split
    · rename_i hp
      have h1 := (hl.getD hM k).1
      have : 0 ≤ left.getD k 0 / need.getD k 0 := Int.ediv_nonneg h1 (by omega)
      omega
    · exact ih
theorem spareTo_bd {c : ClusD} (h : clusOk c = true) (need : List Int) : ∀ k, k ≤ c.units.length → 0 ≤ spareTo c need k ∧ spareTo c need k ≤ 20 * k
  | 0, _ => by simp [spareTo]
  | k + 1, hk => by
    have ih := spareTo_bd h need k (by omega)
    have hx : c.units[k]? = some c.units[k] := List.getElem?_eq_getElem (by omega)
    rw [spareTo_succ hx]
    have hu := clusOk_unit h (List.getElem_mem (by omega : k < c.units.length))
    have hb := timesTo_bd (need := need) (left_nn (roomOk_vec (clusOk_room h)) hu.1 hu.2) (by omega) 3
    unfold timesL
    split <;> omega

end Go.Proofs.Ytfgibhdglbjadaa
