/- Rows of the call's own while another block is written. -/
import Derived.Test.YtfgibhdglbjadaaCl2
namespace Go.Proofs.Ytfgibhdglbjadaa
open Go.RowKit
set_option maxRecDepth 4000

theorem Own.far {α : Type} {e : TypeId} {size : Nat} {E : Enc α} {w w' : World} {base : Nat} {v : Value} {xs : List α} (h : Own e size E w base v xs) (hb : ∀ k, v.ownBlock = some k → w'.heap[k]? = w.heap[k]?) (hE : ∀ cs x, x ∈ xs → E w cs x → E w' cs x) : Own e size E w' base v xs := by
  obtain ⟨cells, ho, hc⟩ := h
  refine ⟨cells, ⟨ho.1, ?_⟩, hc.1, fun j x hx => ?_⟩
  · rcases ho.2 with h0 | ⟨g, cap, cur, hv, hg, hh, r⟩
    · exact .inl h0
    · exact .inr ⟨g, cap, cur, hv, hg, (hb g (by rw [hv]; rfl)).trans hh, r⟩
  · obtain ⟨cs, hl, he, hu⟩ := hc.2 j x hx
    exact ⟨cs, hl, hE cs x (List.mem_of_getElem? hx) he, hu⟩
theorem OT.far {w w' : World} {base : Nat} {v : Value} {ts : List TaskD} (h : OT w base v ts) (hb : ∀ k, v.ownBlock = some k → w'.heap[k]? = w.heap[k]?) (hs : SameT (fun t => t = 3) w w') : OT w' base v ts :=
  Own.far h hb (fun cs x _ he => ET.ok w w' cs x he (hs.mono (fun t ht => ht)))
/-- the units' row as it was, each list of tasks in a block that is as it was -/
theorem OUV.far {w w' : World} {base : Nat} {v : Value} {ps : List (UnitD × Value)} (h : OUV w base v ps) (hb : ∀ k, v.ownBlock = some k → w'.heap[k]? = w.heap[k]?) (hg : ∀ g ∈ blocksOf ps, w'.heap[g]? = w.heap[g]?) (hs : SameT (fun t => t = 3) w w') : OUV w' base v ps :=
  Own.far h hb (fun cs p hp ⟨he, ht⟩ => ⟨he, OT.far ht (fun k hk => hg k (List.mem_filterMap.2 ⟨p, hp, hk⟩)) hs⟩)
end Go.Proofs.Ytfgibhdglbjadaa
