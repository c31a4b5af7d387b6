/- A store into a row of the call's own; the first place where a test says yes. -/
import Derived.Test.YtfgibhdglbjadaaBase
namespace Go.Proofs.Ytfgibhdglbjadaa
open Go.RowKit
set_option maxRecDepth 4000

theorem mul_add_ne {size j k i i' : Nat} (hi : i < size) (hi' : i' < size) (h : k ≠ j) : k * size + i' ≠ j * size + i := by
  intro he
  have h1 : (k * size + i') / size = k := by rw [Nat.mul_comm, Nat.mul_add_div (by omega), Nat.div_eq_of_lt hi']; rfl
  have h2 : (j * size + i) / size = j := by rw [Nat.mul_comm, Nat.mul_add_div (by omega), Nat.div_eq_of_lt hi]; rfl
  rw [he, h2] at h1
  exact h h1.symm

theorem Cells.set {α : Type} {size : Nat} {E : Enc α} {T : TypeId → Prop} (ok : E.Ok T) {w w' : World} {cells : List Value} {xs : List α} (h : Cells size E w cells xs) (hs : SameT T w w') {j i : Nat} {u : Value} {x x' : α} (hj : xs[j]? = some x) (hi : i < size)
    (hx : ∀ cs : List Value, cs.length = size → E w cs x → E w' (cs.set i u) x') : Cells size E w' (cells.set (j * size + i) u) (xs.set j x') := by
  refine ⟨by simpa using h.1, fun k y hy => ?_⟩
  by_cases hkj : k = j
  · subst hkj
    have hlt : k < xs.length := (List.getElem?_eq_some_iff.1 hj).1
    rw [List.getElem?_set_self hlt] at hy
    injection hy with hy
    subst hy
    obtain ⟨cs, hl, he, hc⟩ := h.2 k x hj
    refine ⟨cs.set i u, by simpa using hl, hx cs hl he, fun i' u' hu' => ?_⟩
    by_cases hii : i' = i
    · subst hii
      rw [List.getElem?_set_self (by omega)] at hu'
      injection hu' with hu'
      subst hu'
      have : k * size + i' < cells.length := by
        rw [h.1]
        have : (k + 1) * size ≤ xs.length * size := Nat.mul_le_mul_right _ hlt
        rw [Nat.add_mul] at this
        omega
      rw [List.getElem?_set_self this]
    · rw [List.getElem?_set_ne (Ne.symm hii)] at hu'
      rw [List.getElem?_set_ne (by omega)]
      exact hc i' u' hu'
  · rw [List.getElem?_set_ne (Ne.symm hkj)] at hy
    obtain ⟨cs, hl, he, hc⟩ := h.2 k y hy
    refine ⟨cs, hl, ok _ _ _ _ he hs, fun i' u' hu' => ?_⟩
    have hi' : i' < size := by rw [← hl]; exact (List.getElem?_eq_some_iff.1 hu').1
    rw [List.getElem?_set_ne (Ne.symm (mul_add_ne hi hi' hkj))]
    exact hc i' u' hu'

/-- a store into element j of a row of the call's own -/
theorem Own.set {α : Type} {e : TypeId} {size : Nat} {E : Enc α} {T : TypeId → Prop} (ok : E.Ok T) (hT : ∀ t, T t → t ≠ e) {w : World} {base g n c : Nat} {xs : List α} (h : Own e size E w base (.slice (some ⟨g, 0, none⟩) n c) xs)
    {j i : Nat} {u : Value} {x x' : α} (hj : xs[j]? = some x) (hi : i < size) (hx : ∀ w', SameT T w w' → ∀ cs : List Value, cs.length = size → E w cs x → E w' (cs.set i u) x') :
    Own e size E (w.setCell ⟨g, j * size + i, none⟩ u) base (.slice (some ⟨g, 0, none⟩) n c) (xs.set j x') ∧ SameT (fun t => t ≠ e) w (w.setCell ⟨g, j * size + i, none⟩ u) := by
  obtain ⟨cells, ho, hc⟩ := h
  have hn : n = xs.length := by
    rcases ho.2 with ⟨h1, _⟩ | ⟨g', cap, cur, h1, _⟩
    · cases h1
    · injection h1
  subst hn
  have hs : SameT (fun t => t ≠ e) w (w.setCell ⟨g, j * size + i, none⟩ u) := by
    rcases ho.2 with ⟨h1, _⟩ | ⟨g', cap, cur, h1, _, hg, _⟩
    · cases h1
    · injection h1 with h1 _ _
      injection h1 with h1
      injection h1 with h1 _ _
      subst h1
      exact SameT.setCell (p := ⟨g, j * size + i, none⟩) hg u (fun t ht => ht)
  have hst := ho.stored (j * size + i) u
  refine ⟨⟨cells.set (j * size + i) u, by rw [List.length_set]; exact hst.1, hc.set ok (hs.mono hT) hj hi (hx _ (hs.mono hT))⟩, hs⟩

theorem OI.set {w : World} {base g n c : Nat} {xs : List Int} (h : OI w base (.slice (some ⟨g, 0, none⟩) n c) xs) {j : Nat} (hj : j < xs.length) (x : Int) :
    OI (w.setCell ⟨g, j, none⟩ (.int .i64 x)) base (.slice (some ⟨g, 0, none⟩) n c) (xs.set j x) ∧ SameT (fun t => t ≠ 3) w (w.setCell ⟨g, j, none⟩ (.int .i64 x)) := by
  have := Own.set EI.ok EI.ne h (j := j) (i := 0) (u := .int .i64 x) (x' := x) (List.getElem?_eq_getElem hj) (by omega) (fun w' _ cs hl he => by rw [he]; rfl)
  simpa using this
/-- what a walk wants of a row of ints ahead of a load or a store -/
theorem OI.at_ {w : World} {base g n c : Nat} {xs : List Int} (h : OI w base (.slice (some ⟨g, 0, none⟩) n c) xs) {j : Nat} {x : Int} (hj : xs[j]? = some x) :
    w.cell? ⟨g, j, none⟩ = some (.int .i64 x) ∧ w.frozen? ⟨g, j, none⟩ = false ∧ base ≤ g := by
  obtain ⟨A, c', hv, _, _, hg⟩ := RI.get h.read
  have hlt : j < xs.length := (List.getElem?_eq_some_iff.1 hj).1
  obtain ⟨b, o, y, hA, he, hcell⟩ := hg j hlt
  injection hv with h1 h2 h3
  subst hA
  injection h1 with h1
  injection h1 with h1 h4 _
  subst h1 h4
  have : y = x := by have := he.out; rw [hj] at this; injection this with this; exact this.symm
  subst this
  have hlt2 := (h.lt g rfl).1
  obtain ⟨cells, ho, _⟩ := h
  have hn : n = xs.length := h2
  subst hn
  exact ⟨by simpa using hcell, ho.frozenAt _, hlt2⟩

/-- the first place where a test says yes, or -1 -/
def idxI {α : Type} (p : α → Bool) (xs : List α) : Int := match xs.findIdx? p with | some i => i | none => -1
theorem idxI_hit {α : Type} {p : α → Bool} {xs : List α} {k : Nat} {x : α} (hx : xs[k]? = some x) (h : p x = true) (hn : ∀ (j : Nat) y, j < k → xs[j]? = some y → p y = false) : idxI p xs = k := by
  have hk : k < xs.length := (List.getElem?_eq_some_iff.1 hx).1
  have hbk : xs[k] = x := (List.getElem?_eq_some_iff.1 hx).2
  have : xs.findIdx? p = some k := by
    rw [List.findIdx?_eq_some_iff_getElem]
    exact ⟨hk, by rw [hbk]; exact h, fun j hj => by simpa using hn j xs[j] hj (List.getElem?_eq_getElem (by omega))⟩
  unfold idxI
  rw [this]
theorem idxI_miss {α : Type} {p : α → Bool} {xs : List α} (hn : ∀ (j : Nat) y, xs[j]? = some y → p y = false) : idxI p xs = -1 := by
  have : xs.findIdx? p = none := by
    rw [List.findIdx?_eq_none_iff]
    intro b hb
    obtain ⟨k, hk⟩ := List.getElem?_of_mem hb
    exact hn k b hk
  unfold idxI
  rw [this]
theorem idxI_ge {α : Type} (p : α → Bool) (xs : List α) : decide (0 ≤ idxI p xs) = xs.any p := by
  unfold idxI
  cases h : xs.findIdx? p with
  | none =>
    rw [List.findIdx?_eq_none_iff] at h
    have : xs.any p = false := by rw [List.any_eq_false]; intro x hx; simp [h x hx]
    rw [this]; simp
  | some i =>
    rw [List.findIdx?_eq_some_iff_getElem] at h
    have : xs.any p = true := List.any_eq_true.2 ⟨xs[i]'h.1, List.getElem_mem _, h.2.1⟩
    rw [this]; simp
theorem idxI_lt {α : Type} (p : α → Bool) (xs : List α) : idxI p xs < xs.length := by
  unfold idxI
  cases h : xs.findIdx? p with
  | none => simp; omega
  | some i =>
    rw [List.findIdx?_eq_some_iff_getElem] at h
    have := h.1
    simp; omega
/-- one place further -/
theorem idx_more {α : Type} {p : α → Bool} {xs : List α} {k : Nat} {x : α} (hx : xs[k]? = some x) (h : p x = false) (hn : ∀ (j : Nat) y, j < k → xs[j]? = some y → p y = false) : ∀ (j : Nat) y, j < k + 1 → xs[j]? = some y → p y = false := by
  intro j y hj hy
  by_cases hjk : j = k
  · subst hjk
    rw [hx] at hy
    injection hy with hy
    rw [← hy]; exact h
  · exact hn j y (by omega) hy
end Go.Proofs.Ytfgibhdglbjadaa
