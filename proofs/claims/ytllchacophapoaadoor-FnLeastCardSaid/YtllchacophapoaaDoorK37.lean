/- Regions that draw: moves may come up behind an operation that breaks S. -/
import Derived.Test.YtllchacophapoaaDoorK2
namespace Go.Proofs.YtllchacophapoaaDoor
open Go.RowKit
set_option maxRecDepth 4000

def moveB (ops : Array Oper) (j : Nat) : Bool := match ops[j]? with
  | some ⟨_, .move _, _, _, _, none⟩ => true
  | _ => false
section
variable {P : Program} {ops : Array Oper} {Q : Exit → Act → World → Prop} {md : Region.Mode} {S : World → Prop} {X : List Nat}
theorem wpOp_move {j : Nat} (hm : moveB ops j = true) {K : Act → World → Prop} {a : Act} {w : World} (h : wpOp P ops Q j K a w) : wpOp P ops Q j (fun a' w' => w' = w ∧ K a' w') a w := by
  unfold moveB at hm
  split at hm
  · rename_i d x t p af ho
    unfold wpOp at h ⊢
    rw [ho] at h ⊢
    simp only at h ⊢
    split at h
    · rename_i hw
      rw [if_pos hw]
      rcases h with h | h
      · left
        simp only [Oper.wp, execOp, Sem.run_pure, Oper.upon] at h ⊢
        exact ⟨trivial, h⟩
      · exact .inr h
    · rename_i hw
      rw [if_neg hw]
      exact ⟨trivial, h⟩
  · cases hm
theorem wpAnyG_firstM {i : Nat} {oi : Oper} {v : Value} (hi : ops[i]? = some oi) (hsel : ∀ (j : Nat) (o : Oper) cs b, ops[j]? = some o → o.op ≠ .select cs b)
    (hQ : ∀ c a w, Q (.panic c) (a.put oi.dst v) w → Q (.panic c) a w) (hX : ∀ j, X.contains j = true → reachB md ops ops.size j i = true ∨ moveB ops j = true) :
    ∀ (fuel : Nat) (listed : Array Bool) (a : Act) (w : World), Shut2 md ops listed →
      (∀ j oj, ops[j]? = some oj → j ≠ i → listed.getD j true = false → (∀ e ∈ oj.after, Region.binds md e = true → e.on ≠ i) → oi.apart ops oj = true) →
      i ∈ Region.ready md ops listed → YieldsIf P ops S oi v a → S w →
      wpAnyG P md ops Q S X fuel (listed.setIfInBounds i true) (a.put oi.dst v) w → wpAnyG P md ops Q S X (fuel + 1) listed a w := by
  intro fuel
  induction fuel with
  | zero =>
    intro listed a w _ _ hr hy hS H
    refine ⟨fun h => (by rw [h] at hr; cases hr), fun j hj => ?_⟩
    by_cases hji : j = i
    · subst hji; exact hy.wpOp hi hS ⟨fun _ => hS, H⟩
    · have := ready_mono hj hji
      rw [H.1] at this
      cases this
  | succ fuel ih =>
    intro listed a w hsh hfree hr hy hS H
    refine ⟨fun h => (by rw [h] at hr; cases hr), fun j hj => ?_⟩
    by_cases hji : j = i
    · subst hji; exact hy.wpOp hi hS ⟨fun _ => hS, H⟩
    · have h1 := H.2 j (ready_mono hj hji)
      obtain ⟨hjun, oj, hoj, hall⟩ := mem_ready.1 hj
      have h0 := (mem_ready.1 hr).1
      have hnot : ∀ e ∈ oj.after, Region.binds md e = true → e.on ≠ i := fun e he hb heq => by
        have h1 := hall e he hb
        rw [heq] at h1
        rcases Nat.lt_or_ge i listed.size with h' | h'
        · simp [h'] at h0 h1; rw [h0] at h1; cases h1
        · simp [Array.getElem?_eq_none h'] at h1
      have hjX : X.contains j = false ∨ moveB ops j = true := by
        cases hc : X.contains j with
        | false => exact .inl rfl
        | true =>
          rcases hX j hc with h2 | h2
          · have h1 := reach_listed hsh _ j h2 (fun o ho e he hb => by rw [hoj] at ho; injection ho with ho; subst ho; exact hall e he hb)
            rcases Nat.lt_or_ge i listed.size with h' | h'
            · simp [h'] at h0 h1; rw [h0] at h1; cases h1
            · simp [Array.getElem?_eq_none h'] at h1
          · exact .inr h2
      have h1' : wpOp P ops Q j (fun a' w' => S w' ∧ ((X.contains j = false → S w') ∧ wpAnyG P md ops Q S X fuel ((listed.setIfInBounds i true).setIfInBounds j true) a' w')) (a.put oi.dst v) w := by
        rcases hjX with h2 | h2
        · exact wpOp_mono (fun a' w' h3 => ⟨h3.1 h2, h3⟩) h1
        · exact wpOp_mono (fun a' w' h3 => ⟨by rw [h3.1]; exact hS, h3.2⟩) (wpOp_move h2 h1)
      have h2 := wpOp_putIf hoj (hfree j oj hoj hji hjun hnot) (fun cs b => hsel i oi cs b hi) (fun cs b => hsel j oj cs b hoj) hQ hy h1'
      have hfree' : ∀ k ok, ops[k]? = some ok → k ≠ i → (listed.setIfInBounds j true).getD k true = false →
          (∀ e ∈ ok.after, Region.binds md e = true → e.on ≠ i) → oi.apart ops ok = true := fun k ok hk hki hun hno => by
        refine hfree k ok hk hki ?_ hno
        by_cases hjk : j = k
        · subst hjk; exact hjun
        · rw [getD_set_ne true hjk] at hun; exact hun
      refine wpOp_mono (fun a' w' h3 => ⟨h3.2.2.1, ih (listed.setIfInBounds j true) a' w' (hsh.set hj) hfree' (ready_mono hr (Ne.symm hji)) h3.1 h3.2.1 ?_⟩) h2
      rw [Array.setIfInBounds_comm _ _ hji]
      exact h3.2.2.2
end
section
variable {P : Program} {l : List Oper} {Q : Exit → Act → World → Prop} {S : World → Prop} {X : List Nat}
/-- take number i first, moves of X notwithstanding -/
theorem WG.takeM {i : Nat} {oi : Oper} {v : Value} {fuel : Nat} {listed : Array Bool} {a : Act} {w : World} (hi : l[i]? = some oi)
    (hs : Region.noSelect l.toArray = true) (hf : Region.free .any l.toArray listed i = true) (hr : (Region.ready .any l.toArray listed).contains i = true) (hX : (X.all fun j => reachB .any l.toArray l.toArray.size j i || moveB l.toArray j) = true)
    (hQ : ∀ c a w, Q (.panic c) (a.put oi.dst v) w → Q (.panic c) a w) (hy : YieldsIf P l.toArray S oi v a) (hS : S w)
    (h : WG P l.toArray Q S X fuel (listed.setIfInBounds i true) (a.put oi.dst v) w) : WG P l.toArray Q S X (fuel + 1) listed a w := fun hsh =>
  have hr' : i ∈ Region.ready .any l.toArray listed := by simpa using hr
  have hi' : l.toArray[i]? = some oi := by simpa using hi
  wpAnyG_firstM hi' (Region.noSelect_spec hs) hQ (fun j hj => by have := List.all_eq_true.1 hX j (by simpa using hj); simpa using this) fuel listed a w hsh (Region.free_spec hi' hf) hr' hy hS (h (hsh.set hr'))
end
end Go.Proofs.YtllchacophapoaaDoor
