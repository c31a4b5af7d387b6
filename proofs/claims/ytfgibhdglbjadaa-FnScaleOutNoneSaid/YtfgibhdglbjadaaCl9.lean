/- A unit's row of tasks grows. -/
import Derived.Test.YtfgibhdglbjadaaCl8
namespace Go.Proofs.Ytfgibhdglbjadaa
open Go.RowKit
set_option maxRecDepth 4000

theorem Own.block_ne {α β : Type} {e e' : TypeId} (hne : e ≠ e') {size size' : Nat} {E : Enc α} {E' : Enc β} {w : World} {base base' : Nat} {v v' : Value} {xs : List α} {ys : List β} (h : Own e size E w base v xs) (h' : Own e' size' E' w base' v' ys) {a : Nat} (ha : v.ownBlock = some a) : v'.ownBlock ≠ some a := by
  intro ha'
  obtain ⟨c, ho, _⟩ := h
  obtain ⟨c', ho', _⟩ := h'
  rcases ho.2 with ⟨rfl, _⟩ | ⟨g, cap, cur, rfl, _, hh, _⟩
  · simp [Value.ownBlock] at ha
  rcases ho'.2 with ⟨rfl, _⟩ | ⟨g', cap', cur', rfl, _, hh', _⟩
  · simp [Value.ownBlock] at ha'
  have e1 : g = a := by simpa [Value.ownBlock] using ha
  have e2 : g' = a := by simpa [Value.ownBlock] using ha'
  rw [e1] at hh
  rw [e2, hh] at hh'
  injection hh' with hh'
  injection hh' with _ h2 _
  exact hne h2
theorem Own.obj {α : Type} {e : TypeId} {size : Nat} {E : Enc α} {w : World} {base g n c : Nat} {xs : List α} (h : Own e size E w base (.slice (some ⟨g, 0, none⟩) n c) xs) : ∃ cur, w.heap[g]? = some (.cells cur e (0, 0)) := by
  obtain ⟨cells, ho, _⟩ := h
  rcases ho.2 with ⟨h1, _⟩ | ⟨g', cap, cur, h1, _, hh, _⟩
  · cases h1
  · injection h1 with h1 _ _
    injection h1 with h1
    injection h1 with h1 _ _
    subst h1
    exact ⟨cur, hh⟩
theorem Cells.setx {α : Type} {size : Nat} {E : Enc α} {w w' : World} {cells : List Value} {xs : List α} (h : Cells size E w cells xs) {j i : Nat} {u : Value} {x x' : α} (hj : xs[j]? = some x) (hi : i < size)
    (ho : ∀ (k : Nat) y cs, k ≠ j → xs[k]? = some y → E w cs y → E w' cs y) (hx : ∀ cs : List Value, cs.length = size → E w cs x → E w' (cs.set i u) x') : Cells size E w' (cells.set (j * size + i) u) (xs.set j x') := by
  refine ⟨by simpa using h.1, fun k y hy => ?_⟩
  by_cases hkj : k = j
  · subst hkj
    have hlt : k < xs.length := (List.getElem?_eq_some_iff.1 hj).1
    rw [List.getElem?_set_self hlt] at hy
    injection hy with hy
    subst hy
    obtain ⟨cs, hl, he, hc⟩ := h.2 k x hj
    refine ⟨cs.set i u, by simpa using hl, hx cs hl he, fun i' u' hu' => ?_⟩
    by_cases hii : i' = i
    · subst hii
      rw [List.getElem?_set_self (by omega)] at hu'
      injection hu' with hu'
      subst hu'
      have : k * size + i' < cells.length := by
        rw [h.1]
        have : (k + 1) * size ≤ xs.length * size := Nat.mul_le_mul_right _ hlt
        rw [Nat.add_mul] at this
        omega
      rw [List.getElem?_set_self this]
    · rw [List.getElem?_set_ne (Ne.symm hii)] at hu'
      rw [List.getElem?_set_ne (by omega)]
      exact hc i' u' hu'
  · rw [List.getElem?_set_ne (Ne.symm hkj)] at hy
    obtain ⟨cs, hl, he, hc⟩ := h.2 k y hy
    refine ⟨cs, hl, ho k y cs hkj hy he, fun i' u' hu' => ?_⟩
    have hi' : i' < size := by rw [← hl]; exact (List.getElem?_eq_some_iff.1 hu').1
    rw [List.getElem?_set_ne (Ne.symm (mul_add_ne hi hi' hkj))]
    exact hc i' u' hu'
theorem blocks_apart {ps : List (UnitD × Value)} (h : (blocksOf ps).Nodup) {i k : Nat} {p q : UnitD × Value} (hi : ps[i]? = some p) (hk : ps[k]? = some q) (hik : i ≠ k) {a : Nat} (ha : p.2.ownBlock = some a) : q.2.ownBlock ≠ some a := by
  intro hb
  unfold blocksOf at h
  rw [List.nodup_iff_pairwise_ne, List.pairwise_filterMap, List.pairwise_iff_getElem] at h
  obtain ⟨li, ei⟩ := List.getElem?_eq_some_iff.1 hi
  obtain ⟨lk, ek⟩ := List.getElem?_eq_some_iff.1 hk
  rcases Nat.lt_or_gt_of_ne hik with hlt | hlt
  · exact h i k li lk hlt a (by rw [ei]; exact ha) a (by rw [ek]; exact hb) rfl
  · exact h k i lk li hlt a (by rw [ek]; exact hb) a (by rw [ei]; exact ha) rfl
/-- one unit's row of tasks has grown (in place or in a block that is new), and the unit takes it -/
theorem OUV.grow {w w' : World} {base g n c : Nat} {ps : List (UnitD × Value)} (h : OUV w base (.slice (some ⟨g, 0, none⟩) n c) ps) (hnd : (blocksOf ps).Nodup) {k : Nat} {u : UnitD} {tv : Value} (hk : ps[k]? = some (u, tv)) (hg : w.grownBy w' tv.ownBlock) (hs : SameT (fun t => t ≠ 64) w w') {ts : List TaskD} {v' : Value} (ht : OT w' base v' ts) :
    OUV (w'.setCell ⟨g, k * 2 + 1, none⟩ v') base (.slice (some ⟨g, 0, none⟩) n c) (ps.set k (⟨u.opened, ts⟩, v')) ∧ SameT (fun t => t ≠ 56) w' (w'.setCell ⟨g, k * 2 + 1, none⟩ v') := by
  have h0 := h
  obtain ⟨cells, ho, hc⟩ := h
  have hn : n = ps.length := by
    rcases ho.2 with ⟨h1, _⟩ | ⟨g', cap, cur, h1, _⟩
    · cases h1
    · injection h1
  subst hn
  rcases ho.2 with ⟨h1, _⟩ | ⟨g', cap, cur, h1, hb, hh, hr⟩
  · cases h1
  have h1' := h1
  injection h1 with h1 _ _
  injection h1 with h1
  injection h1 with h1 _ _
  subst h1
  have hh' := hs _ _ _ _ (by decide) hh
  have ho' : w'.ownsRow base 56 2 (.slice (some ⟨g, 0, none⟩) ps.length c) ps.length cells := ⟨ho.1, .inr ⟨g, cap, cur, h1', hb, hh', hr⟩⟩
  have hs2 : SameT (fun t => t ≠ 56) w' (w'.setCell ⟨g, k * 2 + 1, none⟩ v') := SameT.setCell (p := ⟨g, k * 2 + 1, none⟩) hh' v' (fun t ht => ht)
  have hst := ho'.stored (k * 2 + 1) v'
  refine ⟨⟨cells.set (k * 2 + 1) v', by rw [List.length_set]; exact hst.1, Cells.setx (i := 1) hc hk (by omega) (fun i y cs hik hy ⟨he, hty⟩ => ⟨he, ?_⟩) (fun cs hl ⟨he, _⟩ => ⟨by rw [he]; rfl, Own.same ET.ok ht (hs2.mono (by rintro t (rfl | rfl) <;> decide))⟩)⟩, hs2⟩
  refine OT.far hty (fun a ha => ?_) ((hs.mono (by rintro t rfl; decide)).trans (hs2.mono (by rintro t rfl; decide)))
  have hag : a ≠ g := fun e => Own.block_ne (by decide) hty h0 ha (by rw [e]; rfl)
  exact (Below.heap_setCell _ _ _ _ hag).trans (hg.block a (hty.lt a ha).2 (fun e => blocks_apart hnd hy hk hik ha e.symm))
/-- its block is the one that it was, or new -/
theorem nodup_app {ps : List (UnitD × Value)} (hnd : (blocksOf ps).Nodup) {k H : Nat} {u u' : UnitD} {tv v' : Value} (hk : ps[k]? = some (u, tv)) (hv : v'.ownBlock = tv.ownBlock ∨ v'.ownBlock = some H) (hH : ∀ g ∈ blocksOf ps, g < H) : (blocksOf (ps.set k (u', v'))).Nodup := by
  rcases hv with hv | hv
  · have e : ∀ qs : List (UnitD × Value), blocksOf qs = (qs.map (fun p => p.2.ownBlock)).filterMap id := fun qs => by unfold blocksOf; rw [List.filterMap_map]; rfl
    have e2 : blocksOf (ps.set k (u', v')) = blocksOf ps := by
      rw [e, e, List.map_set]
      congr 1
      exact set_same (x := v'.ownBlock) (by rw [List.getElem?_map, hk, hv]; rfl)
    rw [e2]; exact hnd
  · exact nodup_set ps k _ hnd (fun g hg hm => by
      have hg : v'.ownBlock = some g := hg
      rw [hv] at hg
      injection hg with hg
      have := hH g hm
      omega)

end Go.Proofs.Ytfgibhdglbjadaa
