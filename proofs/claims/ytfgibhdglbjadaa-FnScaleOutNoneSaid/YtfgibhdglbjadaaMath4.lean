/- Spare room as needs shrink; enough nodes as the wish shrinks. No program in sight. -/
import Derived.Test.YtfgibhdglbjadaaMath3
namespace Go.Proofs.Ytfgibhdglbjadaa

theorem timesTo_step (left need : List Int) (k : Nat) : timesTo left need (k + 1) = if 0 < need.getD k 0 then min (timesTo left need k) (left.getD k 0 / need.getD k 0) else timesTo left need k := by
  unfold timesTo; rw [List.range_succ, List.foldl_append]; rfl
theorem timesTo_mono {left a b : List Int} (hl : ∀ i, 0 ≤ left.getD i 0) (h : ∀ i, b.getD i 0 ≤ a.getD i 0) : ∀ k, timesTo left a k ≤ timesTo left b k
  | 0 => Int.le_refl _
  | k + 1 => by
    have ih := timesTo_mono hl h k
    have hk := h k
    rw [timesTo_step, timesTo_step]
    by_cases hb : 0 < b.getD k 0
    · have ha : 0 < a.getD k 0 := by omega
      rw [if_pos hb, if_pos ha]
      have h1 : left.getD k 0 / a.getD k 0 ≤ left.getD k 0 / b.getD k 0 := by
        refine (Int.le_ediv_iff_mul_le hb).2 (Int.le_trans (Int.mul_le_mul_of_nonneg_left hk (Int.ediv_nonneg (hl k) (by omega))) (Int.ediv_mul_le _ (by omega)))
      omega
    · rw [if_neg hb]
      split <;> omega
theorem spareTo_mono {c : ClusD} (hc : clusOk c = true) {a b : List Int} (h : ∀ i, b.getD i 0 ≤ a.getD i 0) : ∀ k, k ≤ c.units.length → spareTo c a k ≤ spareTo c b k
  | 0, _ => by simp [spareTo]
  | k + 1, hk => by
    have ih := spareTo_mono hc h k (by omega)
    have hx : c.units[k]? = some c.units[k] := List.getElem?_eq_getElem (by omega)
    rw [spareTo_succ hx, spareTo_succ hx]
    have hu := clusOk_unit hc (List.getElem_mem (by omega : k < c.units.length))
    have hb := timesTo_mono (fun i => ((left_nn (roomOk_vec (clusOk_room hc)) hu.1 hu.2).getD (by omega) i).1) h 3
    unfold timesL
    split <;> omega
theorem spareN_ge {c : ClusD} {need : List Int} (h : ¬ spareN c need < 0) : clusOk c = true ∧ needOk need = true ∧ spareN c need = spareL c need := by
  unfold spareN at *
  split
  · rename_i h1
    simp only [Bool.and_eq_true] at h1
    exact ⟨h1.1, h1.2, rfl⟩
  · rename_i h1
    rw [if_neg h1] at h
    exact absurd (by omega) h
/-- with less to place there is no less room -/
theorem spare_less {c : ClusD} {need need' : List Int} (h : ¬ spareN c need < 0) (hn : ∀ i, need'.getD i 0 ≤ need.getD i 0) : spareN c need' = -1 ∨ spareN c need ≤ spareN c need' := by
  obtain ⟨h1, h2, h3⟩ := spareN_ge h
  rw [h3]
  unfold spareN
  split
  · exact .inr (spareTo_mono h1 hn _ (Nat.le_refl _))
  · exact .inl rfl
theorem getD_set (xs : List Int) (k : Nat) (y : Int) (i : Nat) (hy : y ≤ xs.getD k 0) : (xs.set k y).getD i 0 ≤ xs.getD i 0 := by
  rw [List.getD_eq_getElem?_getD, List.getD_eq_getElem?_getD]
  by_cases hik : k = i
  · subst hik
    by_cases hk : k < xs.length
    · rw [List.getElem?_set_self hk]
      rw [List.getD_eq_getElem?_getD] at hy
      exact hy
    · rw [List.getElem?_eq_none (by rw [List.length_set]; omega), List.getElem?_eq_none (by omega)]
      exact Int.le_refl _
  · rw [List.getElem?_set_ne hik]
    exact Int.le_refl _
theorem enough_cases (h f want : Int) (m : Nat) : (∃ i : Nat, i < m ∧ enough h f want m = i ∧ want ≤ h + (i : Int) * f ∧ ∀ j : Nat, j < i → h + (j : Int) * f < want) ∨ enough h f want m = -1 ∧ ∀ j : Nat, j < m → h + (j : Int) * f < want := by
  unfold enough
  cases e : (List.range m).findIdx? (fun n : Nat => decide (want ≤ h + (n : Int) * f)) with
  | none =>
    rw [List.findIdx?_eq_none_iff] at e
    refine .inr ⟨rfl, fun j hj => ?_⟩
    have := e j (by simpa using hj)
    simp at this
    omega
  | some i =>
    rw [List.findIdx?_eq_some_iff_getElem] at e
    obtain ⟨hi, hp, hn⟩ := e
    refine .inl ⟨i, by simpa using hi, rfl, by simpa using hp, fun j hj => ?_⟩
    have := hn j hj
    simp at this
    omega
theorem outN_ge {c : ClusD} {need : List Int} {want : Int} (h : ¬ outN c need want < 0) : (clusOk c && needOk need) = true ∧ inB want 0 999 = true := by
  unfold outN at h
  split at h
  · rename_i h1
    rw [Bool.and_eq_true] at h1
    exact h1
  · exact absurd (by omega) h
/-- less is asked for: no more nodes -/
theorem out_more {c : ClusD} {need : List Int} {want : Int} (h : ¬ outN c need want < 0) (h0 : want ≠ 0) : 0 ≤ outN c need (want - 1) ∧ outN c need (want - 1) ≤ outN c need want := by
  obtain ⟨h1, h2⟩ := outN_ge h
  have h3 : inB (want - 1) 0 999 = true := by
    simp only [inB, Bool.and_eq_true, decide_eq_true_eq] at h2 ⊢
    omega
  have e1 : outN c need want = enough (spareL c need) (timesL c.room need) want (c.units.length - openN c + 1) := by unfold outN; rw [h1, h2]; rfl
  have e2 : outN c need (want - 1) = enough (spareL c need) (timesL c.room need) (want - 1) (c.units.length - openN c + 1) := by unfold outN; rw [h1, h3]; rfl
  rw [e1] at h
  rw [e1, e2]
  rcases enough_cases (spareL c need) (timesL c.room need) want (c.units.length - openN c + 1) with ⟨i, hi, he, hp, _⟩ | ⟨he, _⟩
  · rcases enough_cases (spareL c need) (timesL c.room need) (want - 1) (c.units.length - openN c + 1) with ⟨j, hj, he', hp', hn'⟩ | ⟨he', hn'⟩
    · rw [he, he']
      refine ⟨by omega, ?_⟩
      by_cases hij : i < j
      · have := hn' i hij
        omega
      · omega
    · have := hn' i hi
      omega
  · rw [he] at h
    exact absurd (by omega) h
/-- no node is asked for just where there is room enough -/
theorem out_none {c : ClusD} {need : List Int} {want : Int} (h1 : (clusOk c && needOk need) = true) (h2 : inB want 0 999 = true) : decide (want ≤ spareL c need) = decide (outN c need want = 0) := by
  have e1 : outN c need want = enough (spareL c need) (timesL c.room need) want (c.units.length - openN c + 1) := by unfold outN; rw [h1, h2]; rfl
  rw [e1]
  rcases enough_cases (spareL c need) (timesL c.room need) want (c.units.length - openN c + 1) with ⟨i, hi, he, hp, hn⟩ | ⟨he, hn⟩
  · rw [he]
    by_cases hi0 : i = 0
    · subst hi0
      simp at hp
      simp [hp]
    · have := hn 0 (by omega)
      simp at this
      rw [decide_eq_false (by omega), decide_eq_false (by omega)]
  · have := hn 0 (by omega)
    simp at this
    rw [he, decide_eq_false (by omega), decide_eq_false (by omega)]

end Go.Proofs.Ytfgibhdglbjadaa
