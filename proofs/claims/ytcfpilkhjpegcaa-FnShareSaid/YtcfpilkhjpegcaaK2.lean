/- Words for memory: what a slice value reads as in a world; worlds that only add; rows of the call's own. -/
import Derived.Test.YtcfpilkhjpegcaaK1
import Derived.WalkKit
import Derived.WalkSpells
import Derived.WalkLawsBesides
import Derived.BigQuiet
import Derived.Deep.QuietTactic
import Derived.Deep.RegionHeld3
import Derived.Deep.AppendLies
import Derived.Deep.DeepCutAuto
import Derived.Deep.Draws
import Derived.Test.YtcfpilkhjpegcaaRows
namespace Go.Proofs.Ytcfpilkhjpegcaa
open Go.RowKit
set_option maxRecDepth 4000

theorem hid {p : Prop} (h : p) : Hid p := h

/-- all that was there is as it was -/
abbrev Ext (w w' : World) : Prop := Below w.heap.size w w'
theorem Ext.refl (w : World) : Ext w w := Below.refl _ _
theorem Ext.trans {a b c : World} (h : Ext a b) (k : Ext b c) : Ext a c := Below.trans h (k.mono h.size)
theorem Ext.drewN (w : World) (n : Nat) : Ext w (w.drewN n) := by
  induction n with
  | zero => exact Below.refl _ _
  | succ n ih => exact Below.trans ih (Below.drew (Below.refl _ _))
theorem Ext.alloc (w : World) (o : Obj) : Ext w (w.alloc o) := Below.alloc (Below.refl _ _) (Nat.le_refl _) o
theorem Ext.cell {w w' : World} (h : Ext w w') {b o : Nat} {v : Value} (hc : w.cell? ⟨b, o, none⟩ = some v) : w'.cell? ⟨b, o, none⟩ = some v :=
  (Below.cell h (p := ⟨b, o, none⟩) (World.block_lt_of_cell? w _ hc)).trans hc
theorem Ext.obj {w w' : World} (h : Ext w w') {b : Nat} {o : Obj} (hc : w.heap[b]? = some o) : w'.heap[b]? = some o :=
  (h.block b (Array.getElem?_eq_some_iff.1 hc).1).trans hc

theorem cell_new (w : World) (cs : Array Value) (t : TypeId) (i : Nat) : (w.alloc (.cells cs t)).cell? ⟨w.heap.size, i, none⟩ = cs[i]? := cell_of_row _ _ _ cs t (0, 0) (heap_alloc_new w _)
theorem obj_frozen {w : World} {b : Nat} {cur : Array Value} {t : TypeId} (h : w.heap[b]? = some (.cells cur t (0, 0))) (i : Nat) : w.frozen? ⟨b, i, none⟩ = false := by simp [World.frozen?, h]
theorem obj_cell {w : World} {b : Nat} {cur : Array Value} {t : TypeId} {fr : Nat × Nat} (h : w.heap[b]? = some (.cells cur t fr)) {i : Nat} {u : Value} (hu : cur[i]? = some u) : w.cell? ⟨b, i, none⟩ = some u := (cell_of_row w b i cur t fr h).trans hu
theorem obj_set {w : World} {b : Nat} {cur : Array Value} {t : TypeId} {fr : Nat × Nat} (h : w.heap[b]? = some (.cells cur t fr)) (i : Nat) (u : Value) : (w.setCell ⟨b, i, none⟩ u).heap[b]? = some (.cells (cur.setIfInBounds i u) t fr) := by
  simp [World.setCell, Array.getElem?_modify, h]
theorem obj_set2 {w : World} {b : Nat} {x y : Value} {t : TypeId} {fr : Nat × Nat} (h : w.heap[b]? = some (.cells #[x, y] t fr)) (u v : Value) : ((w.setCell ⟨b, 0, none⟩ u).setCell ⟨b, 1, none⟩ v).heap[b]? = some (.cells #[u, v] t fr) := by
  have h1 := obj_set h 0 u
  have h2 := obj_set h1 1 v
  simpa using h2
theorem obj_far {w : World} {b : Nat} {o : Obj} (h : w.heap[b]? = some o) {p : Addr} (hp : b ≠ p.block) (u : Value) : (w.setCell p u).heap[b]? = some o := (Below.heap_setCell w p u b hp).trans h
theorem obj_lt {w : World} {b : Nat} {o : Obj} (h : w.heap[b]? = some o) : b < w.heap.size := (Array.getElem?_eq_some_iff.1 h).1
/-- blocks of these element types are as they were -/
def SameT (T : TypeId → Prop) (w w' : World) : Prop := ∀ (k : Nat) (cur : Array Value) (t : TypeId) (fr : Nat × Nat), T t → w.heap[k]? = some (.cells cur t fr) → w'.heap[k]? = some (.cells cur t fr)
theorem SameT.refl (T : TypeId → Prop) (w : World) : SameT T w w := fun _ _ _ _ _ h => h
theorem SameT.trans {T : TypeId → Prop} {a b c : World} (h : SameT T a b) (k : SameT T b c) : SameT T a c := fun i cur t fr ht hi => k i cur t fr ht (h i cur t fr ht hi)
theorem SameT.mono {T T' : TypeId → Prop} {a b : World} (h : SameT T a b) (hT : ∀ t, T' t → T t) : SameT T' a b := fun i cur t fr ht hi => h i cur t fr (hT t ht) hi
theorem Ext.same {w w' : World} (h : Ext w w') (T : TypeId → Prop) : SameT T w w' := fun _ _ _ _ _ hk => h.obj hk
theorem SameT.setCell {w : World} {p : Addr} {cur : Array Value} {e : TypeId} {fr : Nat × Nat} (hp : w.heap[p.block]? = some (.cells cur e fr)) (u : Value) {T : TypeId → Prop} (hT : ∀ t, T t → t ≠ e) : SameT T w (w.setCell p u) := by
  intro k cur' t fr' ht hk
  by_cases h : k = p.block
  · subst h
    rw [hp] at hk
    injection hk with hk
    injection hk with _ h2 _
    exact absurd h2.symm (hT t ht)
  · rw [Below.heap_setCell _ _ _ _ h]; exact hk
theorem SameT.grown {w w' : World} {base : Nat} {e : TypeId} {size n : Nat} {v : Value} {xs : List Value} (hown : w.ownsRow base e size v n xs) (hg : w.grownBy w' v.ownBlock) {T : TypeId → Prop} (hT : ∀ t, T t → t ≠ e) : SameT T w w' := by
  intro k cur t fr ht hk
  rw [hg.block k (Array.getElem?_eq_some_iff.1 hk).1 ?_]
  · exact hk
  · intro he
    rcases hown.2 with ⟨rfl, _⟩ | ⟨g, cap, cur', rfl, _, hh, _⟩
    · simp [Value.ownBlock] at he
    · simp [Value.ownBlock] at he
      subst he
      rw [hh] at hk
      injection hk with hk
      injection hk with _ h2 _
      exact hT t ht h2.symm

theorem ret_b {a b : Bool} (h : a = b) : Ending.returned (.bool a) = .returned (.bool b) := by rw [h]
theorem ret_i {a b : Int} (h : a = b) : Ending.returned (.int .i64 a) = .returned (.int .i64 b) := by rw [h]

theorem ownsRow_low {w : World} {base base' : Nat} {e : TypeId} {size : Nat} {v : Value} {n : Nat} {xs : List Value} (h : w.ownsRow base e size v n xs) (hb : base' ≤ base) : w.ownsRow base' e size v n xs := by
  refine ⟨h.1, ?_⟩
  rcases h.2 with h0 | ⟨g, cap, cur, hv, hg, r⟩
  · exact .inl h0
  · exact .inr ⟨g, cap, cur, hv, Nat.le_trans hb hg, r⟩
/-- how an element's cells read -/
abbrev Enc (α : Type) := World → List Value → α → Prop

/-- a slice value that reads as a list; e: the element type's number -/
def RSl {α : Type} (e : TypeId) (size : Nat) (E : Enc α) (w : World) (v : Value) (xs : List α) : Prop :=
  ∃ A c, v = .slice A xs.length c ∧ xs.length ≤ c ∧ c ≤ 9223372036854775807 ∧ (0 < xs.length → ∃ b o cur fr, A = some ⟨b, o, none⟩ ∧ w.heap[b]? = some (.cells cur e fr) ∧
    ∀ j x, xs[j]? = some x → ∃ cs : List Value, cs.length = size ∧ E w cs x ∧ ∀ i u, cs[i]? = some u → cur[o + (j * size + i)]? = some u)

theorem SameT.cell {T : TypeId → Prop} {w w' : World} (h : SameT T w w') {b o : Nat} {cur : Array Value} {t : TypeId} {fr : Nat × Nat} (hb : w.heap[b]? = some (.cells cur t fr)) (ht : T t) : w'.cell? ⟨b, o, none⟩ = cur[o]? := cell_of_row _ _ _ cur t fr (h b cur t fr ht hb)
/-- an element's reading hangs on blocks of these types alone -/
def Enc.Ok {α : Type} (E : Enc α) (T : TypeId → Prop) : Prop := ∀ w w' cs x, E w cs x → SameT T w w' → E w' cs x

theorem RSl.same_ {α : Type} {e : TypeId} {size : Nat} {E : Enc α} {T : TypeId → Prop} (ok : E.Ok T) {w w' : World} {v : Value} {xs : List α} (h : RSl e size E w v xs) (ha : SameT (fun t => t = e ∨ T t) w w') : RSl e size E w' v xs := by
  obtain ⟨A, c, hv, hc, hc', h⟩ := h
  refine ⟨A, c, hv, hc, hc', fun hn => ?_⟩
  obtain ⟨b, o, cur, fr, hA, hb, h⟩ := h hn
  refine ⟨b, o, cur, fr, hA, ha _ _ _ _ (.inl rfl) hb, fun j x hx => ?_⟩
  obtain ⟨cs, hl, he, hcell⟩ := h j x hx
  exact ⟨cs, hl, ok _ _ _ _ he (ha.mono fun t ht => .inr ht), hcell⟩

/-- the empty slice -/
theorem RSl.nil_ {α : Type} (e : TypeId) (size : Nat) (E : Enc α) (w : World) (A : Option Addr) (c : Nat) (hc : c ≤ 9223372036854775807) : RSl e size E w (.slice A 0 c) [] :=
  ⟨A, c, rfl, Nat.zero_le _, hc, fun h => absurd h (by simp)⟩

/-- a piece of it -/
theorem RSl.head_ {α : Type} {e : TypeId} {size : Nat} {E : Enc α} {w : World} {A : Option Addr} {n c : Nat} {xs : List α} (h : RSl e size E w (.slice A n c) xs) {k : Nat} (hk : k ≤ xs.length) : RSl e size E w (.slice A k c) (xs.take k) := by
  obtain ⟨A', c', hv, hc, hc', h⟩ := h
  injection hv with h1 h2 h3
  subst h1 h2 h3
  refine ⟨A, c, by rw [List.length_take, Nat.min_eq_left hk], by rw [List.length_take]; omega, hc', fun hn => ?_⟩
  rw [List.length_take] at hn
  obtain ⟨b, o, cur, fr, hA, hb, h⟩ := h (by omega)
  refine ⟨b, o, cur, fr, hA, hb, fun j x hx => ?_⟩
  rw [List.getElem?_take] at hx
  split at hx
  · exact h j x hx
  · cases hx

/-- a slice's shape and its cells by index, each value under a name of its own -/
theorem RSl.get_ {α : Type} {e : TypeId} {size : Nat} {E : Enc α} {w : World} {v : Value} {xs : List α} (h : RSl e size E w v xs) : ∃ A c, v = .slice A xs.length c ∧ xs.length ≤ c ∧ c ≤ 9223372036854775807 ∧
    ∀ (j : Nat), j < xs.length → ∃ b o x cs, A = some ⟨b, o, none⟩ ∧ xs[j]? = some x ∧ cs.length = size ∧ E w cs x ∧ ∀ i u, cs[i]? = some u → w.cell? ⟨b, o + (j * size + i), none⟩ = some u := by
  obtain ⟨A, c, hv, h1, h2, h⟩ := h
  refine ⟨A, c, hv, h1, h2, fun j hj => ?_⟩
  obtain ⟨b, o, cur, fr, hA, hb, h⟩ := h (by omega)
  obtain ⟨cs, hl, he, hc⟩ := h j xs[j] (List.getElem?_eq_getElem hj)
  exact ⟨b, o, xs[j], cs, hA, List.getElem?_eq_getElem hj, hl, he, fun i u hu => by rw [cell_of_row w _ _ cur e fr hb]; exact hc i u hu⟩

theorem RSl.map {α β : Type} {e : TypeId} {size : Nat} {E : Enc α} {E' : Enc β} {w : World} {v : Value} {xs : List α} {f : α → β} (h : RSl e size E w v xs) (hf : ∀ cs x, E w cs x → E' w cs (f x)) : RSl e size E' w v (xs.map f) := by
  obtain ⟨A, c, hv, h1, h2, h⟩ := h
  refine ⟨A, c, by rw [List.length_map]; exact hv, by rw [List.length_map]; exact h1, h2, fun hn => ?_⟩
  rw [List.length_map] at hn
  obtain ⟨b, o, cur, fr, hA, hb, h⟩ := h hn
  refine ⟨b, o, cur, fr, hA, hb, fun j y hy => ?_⟩
  rw [List.getElem?_map] at hy
  obtain ⟨x, hx, rfl⟩ := Option.map_eq_some_iff.1 hy
  obtain ⟨cs, hl, he, hc⟩ := h j x hx
  exact ⟨cs, hl, hf _ _ he, hc⟩
/-- cells that read as a list -/
def Cells {α : Type} (size : Nat) (E : Enc α) (w : World) (cells : List Value) (xs : List α) : Prop :=
  cells.length = xs.length * size ∧ ∀ j x, xs[j]? = some x → ∃ cs : List Value, cs.length = size ∧ E w cs x ∧ ∀ i u, cs[i]? = some u → cells[j * size + i]? = some u
theorem Cells.nil_ {α : Type} (size : Nat) (E : Enc α) (w : World) : Cells size E w [] [] := ⟨by simp, fun j x h => by simp at h⟩
theorem Cells.app {α : Type} {size : Nat} {E : Enc α} {w : World} {c1 c2 : List Value} {xs ys : List α} (h : Cells size E w c1 xs) (k : Cells size E w c2 ys) : Cells size E w (c1 ++ c2) (xs ++ ys) := by
  refine ⟨by rw [List.length_append, h.1, k.1, List.length_append, Nat.add_mul], fun j x hx => ?_⟩
  rw [List.getElem?_append] at hx
  split at hx
  · rename_i hj
    obtain ⟨cs, hl, he, hc⟩ := h.2 j x hx
    refine ⟨cs, hl, he, fun i u hu => ?_⟩
    have h2 : i < size := by rw [← hl]; exact (List.getElem?_eq_some_iff.1 hu).1
    have h3 : (j + 1) * size ≤ xs.length * size := Nat.mul_le_mul_right _ hj
    rw [Nat.add_mul] at h3
    rw [List.getElem?_append_left (by rw [h.1]; omega)]
    exact hc i u hu
  · rename_i hj
    obtain ⟨cs, hl, he, hc⟩ := k.2 _ x hx
    refine ⟨cs, hl, he, fun i u hu => ?_⟩
    have h3 : xs.length * size ≤ j * size := Nat.mul_le_mul_right _ (by omega)
    have h4 : j * size + i - xs.length * size = (j - xs.length) * size + i := by rw [Nat.sub_mul]; omega
    rw [List.getElem?_append_right (by rw [h.1]; omega), h.1, h4]
    exact hc i u hu
theorem Cells.same {α : Type} {size : Nat} {E : Enc α} {T : TypeId → Prop} (ok : E.Ok T) {w w' : World} {c : List Value} {xs : List α} (h : Cells size E w c xs) (ha : SameT T w w') : Cells size E w' c xs :=
  ⟨h.1, fun j x hx => let ⟨cs, hl, he, hc⟩ := h.2 j x hx; ⟨cs, hl, ok _ _ _ _ he ha, hc⟩⟩
theorem Cells.one {α : Type} {size : Nat} {E : Enc α} {w : World} {cs : List Value} {x : α} (hl : cs.length = size) (he : E w cs x) : Cells size E w cs [x] :=
  ⟨by simp [hl], fun j y hy => by
    match j, hy with
    | 0, hy =>
      simp at hy
      subst hy
      exact ⟨cs, hl, he, fun i u hu => by simpa using hu⟩⟩
/-- the elements' cells as one list -/
theorem cells_choose {α : Type} {size : Nat} {E : Enc α} {w : World} {P : Nat → Value → Prop} : ∀ (xs : List α) (o : Nat), (∀ j x, xs[j]? = some x → ∃ cs : List Value, cs.length = size ∧ E w cs x ∧ ∀ i u, cs[i]? = some u → P (o + (j * size + i)) u) →
    ∃ cells, Cells size E w cells xs ∧ ∀ i u, cells[i]? = some u → P (o + i) u
  | [], _, _ => ⟨[], Cells.nil_ _ _ _, fun i u h => by simp at h⟩
  | x :: xs, o, h => by
    obtain ⟨cs, hl, he, hc⟩ := h 0 x rfl
    obtain ⟨cells, hcells, hP⟩ := cells_choose xs (o + size) (fun j y hy => by
      obtain ⟨cs', hl', he', hc'⟩ := h (j + 1) y (by simpa using hy)
      refine ⟨cs', hl', he', fun i u hu => ?_⟩
      have := hc' i u hu
      rwa [show o + ((j + 1) * size + i) = o + size + (j * size + i) by rw [Nat.add_mul]; omega] at this)
    refine ⟨cs ++ cells, (Cells.one hl he).app hcells, fun i u hu => ?_⟩
    rw [List.getElem?_append] at hu
    split at hu
    · simpa using hc i u hu
    · rename_i hi
      have := hP _ u hu
      rwa [show o + size + (i - cs.length) = o + i by omega] at this

/-- a row of the call's own whose elements read as a list -/
def Own {α : Type} (e : TypeId) (size : Nat) (E : Enc α) (w : World) (base : Nat) (v : Value) (xs : List α) : Prop := ∃ cells, w.ownsRow base e size v xs.length cells ∧ Cells size E w cells xs
theorem Own.none_ {α : Type} (e : TypeId) (size : Nat) (E : Enc α) (w : World) (base : Nat) : Own (α := α) e size E w base (.slice none 0 0) [] := ⟨[], World.ownsRow_nil _ _ _ _, Cells.nil_ _ _ _⟩
theorem Own.made {α : Type} {e : TypeId} {size : Nat} {E : Enc α} {w : World} {base : Nat} (cur : Array Value) (cap : Nat) (hb : base ≤ w.heap.size) (hm : cap ≤ 9223372036854775807) (hs : cur.size = cap * size) :
    Own (α := α) e size E (w.alloc (.cells cur e)) base (.slice (some ⟨w.heap.size, 0, none⟩) 0 cap) [] := ⟨[], World.ownsRow_made _ _ _ hb (by unfold maxLen; omega) hs, Cells.nil_ _ _ _⟩
theorem Own.madeAt {α : Type} {e : TypeId} {size : Nat} {E : Enc α} {w : World} {base : Nat} (cur : Array Value) (cap H : Nat) (hH : w.heap.size = H) (hb : base ≤ H) (hm : cap ≤ 9223372036854775807) (hs : cur.size = cap * size) :
    Own (α := α) e size E (w.alloc (.cells cur e)) base (.slice (some ⟨H, 0, none⟩) 0 cap) [] := by
  subst hH
  exact Own.made cur cap hb hm hs
theorem heap_new {w : World} {o : Obj} {H : Nat} (hH : w.heap.size = H) : (w.alloc o).heap[H]? = some o := by subst hH; exact heap_alloc_new w o
/-- a literal's row -/
theorem Own.lit {α : Type} {e : TypeId} {size : Nat} {E : Enc α} {w : World} {base : Nat} {cells : List Value} {xs : List α} (hb : base ≤ w.heap.size) (hm : xs.length ≤ 9223372036854775807) (hc : Cells size E (w.alloc (.cells cells.toArray e)) cells xs) :
    Own e size E (w.alloc (.cells cells.toArray e)) base (.slice (some ⟨w.heap.size, 0, none⟩) xs.length xs.length) xs := by
  refine ⟨cells, ⟨hc.1, .inr ⟨w.heap.size, xs.length, cells.toArray, rfl, hb, heap_alloc_new w _, Nat.le_refl _, by unfold maxLen; omega, by simpa using hc.1, ?_⟩⟩, hc⟩
  rw [← hc.1]
  exact List.take_length
theorem Own.same {α : Type} {e : TypeId} {size : Nat} {E : Enc α} {T : TypeId → Prop} (ok : E.Ok T) {w w' : World} {base : Nat} {v : Value} {xs : List α} (h : Own e size E w base v xs) (ha : SameT (fun t => t = e ∨ T t) w w') : Own e size E w' base v xs := by
  obtain ⟨cells, ho, hc⟩ := h
  refine ⟨cells, ⟨ho.1, ?_⟩, hc.same ok (ha.mono fun t ht => .inr ht)⟩
  rcases ho.2 with h0 | ⟨g, cap, cur, hv, hb, hg, r⟩
  · exact .inl h0
  · exact .inr ⟨g, cap, cur, hv, hb, ha _ _ _ _ (.inl rfl) hg, r⟩
theorem Own.ext {α : Type} {e : TypeId} {size : Nat} {E : Enc α} {T : TypeId → Prop} (ok : E.Ok T) {w w' : World} {base : Nat} {v : Value} {xs : List α} (h : Own e size E w base v xs) (ha : Ext w w') : Own e size E w' base v xs := h.same ok (ha.same _)
theorem Own.low {α : Type} {e : TypeId} {size : Nat} {E : Enc α} {w : World} {base base' : Nat} {v : Value} {xs : List α} (h : Own e size E w base v xs) (hb : base' ≤ base) : Own e size E w base' v xs := let ⟨c, h1, h2⟩ := h; ⟨c, ownsRow_low h1 hb, h2⟩
theorem Own.lt {α : Type} {e : TypeId} {size : Nat} {E : Enc α} {w : World} {base : Nat} {v : Value} {xs : List α} (h : Own e size E w base v xs) : ∀ k, v.ownBlock = some k → base ≤ k ∧ k < w.heap.size := let ⟨_, h1, _⟩ := h; h1.lt
theorem Own.read {α : Type} {e : TypeId} {size : Nat} {E : Enc α} {w : World} {base : Nat} {v : Value} {xs : List α} (h : Own e size E w base v xs) : RSl e size E w v xs := by
  obtain ⟨cells, ho, hc⟩ := h
  rcases ho.2 with ⟨rfl, h0⟩ | ⟨g, cap, cur, rfl, _, hg, hl, hm, _, ht⟩
  · rw [show xs = [] from List.eq_nil_of_length_eq_zero h0]
    exact RSl.nil_ _ _ _ _ _ _ (by omega)
  · refine ⟨_, cap, rfl, hl, by unfold maxLen at hm; omega, fun _ => ⟨g, 0, cur, (0, 0), rfl, hg, fun j x hx => ?_⟩⟩
    obtain ⟨cs, hcs, hE, hcc⟩ := hc.2 j x hx
    refine ⟨cs, hcs, hE, fun i u hu => ?_⟩
    have := hcc i u hu
    rw [← ht, List.getElem?_take] at this
    split at this
    · rw [Nat.zero_add]; simpa using this
    · cases this
/-- the shape of a row's value -/
theorem Own.form {α : Type} {e : TypeId} {size : Nat} {E : Enc α} {w : World} {base : Nat} {v : Value} {xs : List α} (h : Own e size E w base v xs) : ∃ A c, v = .slice A xs.length c ∧ c ≤ 9223372036854775807 ∧ xs.length ≤ c := by
  obtain ⟨A, c, hv, h1, h2, _⟩ := h.read
  exact ⟨A, c, hv, h2, h1⟩

/-- the shape behind an append -/
theorem Own.form_app {α : Type} {e : TypeId} {size : Nat} {E : Enc α} {w : World} {base : Nat} {v : Value} {xs : List α} {x : α} (h : Own e size E w base v (xs ++ [x])) : ∃ A c, v = .slice A (xs.length + 1) c ∧ c ≤ 9223372036854775807 ∧ xs.length + 1 ≤ c := by
  obtain ⟨A, c, h1, h2, h3⟩ := h.form
  simp only [List.length_append, List.length_cons, List.length_nil, Nat.zero_add] at h1 h3
  exact ⟨A, c, h1, h2, h3⟩
/-- one element that has just been laid, as a slice -/
theorem RSl.laid {α : Type} {e : TypeId} {size : Nat} {E : Enc α} {w : World} {B : Nat} {cs : List Value} {fr : Nat × Nat} {x : α} (hb : w.heap[B]? = some (.cells cs.toArray e fr)) (hl : cs.length = size) (he : E w cs x) : RSl e size E w (.slice (some ⟨B, 0, none⟩) 1 1) [x] :=
  ⟨_, 1, rfl, Nat.le_refl _, by omega, fun _ => ⟨B, 0, cs.toArray, fr, rfl, hb, fun j y hy => by
    match j, hy with
    | 0, hy =>
      simp at hy
      subst hy
      exact ⟨cs, hl, he, fun i u hu => by simpa using hu⟩⟩⟩

/-- elements whose cells hold one value each -/
def Enc.Flat {α : Type} (E : Enc α) : Prop := ∀ w cs x, E w cs x → ∀ u ∈ cs, u.oneCell' = true

section
variable {P : Program} (w : World)
/-- append onto a row of the call's own, whatever the source. -/
theorem run_append_sl {α : Type} {E : Enc α} {T : TypeId → Prop} (ok : E.Ok T) (flat : E.Flat) (base : Nat) (t ty e : TypeId) (hTe : ∀ t, T t → t ≠ e) (i : TypeInfo) (z : Value) (size bytes : Nat) (ht : P.underlying t = some (.slice e)) (hi : P.info? e = some i) (hz : i.zero = some z)
    (hsize : i.size = size) (hby : i.bytes = bytes) (hzs : z.cells.size = size) (hsz : 0 < size)
    (v : Value) (xs : List α) (hown : Own e size E w base v xs) (sv : Value) (ys : List α) (hr : RSl e size E w sv ys)
    (h63 : xs.length + ys.length ≤ 9223372036854775807) (hbytes : (xs.length + ys.length) * bytes ≤ 140737488355328) (hbase : base ≤ w.heap.size) :
    ∃ v' w', (Builtin.append_ #[t, t] ty #[v, sv]).run P w = .ok v' w' ∧ Own e size E w' base v' (xs ++ ys) ∧ w.grownBy w' v.ownBlock ∧
      (v'.ownBlock = v.ownBlock ∨ v'.ownBlock = some w.heap.size) ∧ SameT (fun t => t ≠ e) w w' := by
  obtain ⟨A, c, rfl, h1, h2, h3⟩ := hr
  obtain ⟨cells, ho, hc⟩ := hown
  by_cases hn : ys = []
  · subst hn
    refine ⟨v, w, ?_, by rw [List.append_nil]; exact ⟨cells, ho, hc⟩, World.grownBy.refl w _, .inl rfl, SameT.refl _ _⟩
    have ho' := ho
    rcases ho.2 with ⟨rfl, h0⟩ | ⟨g, cap, cur, rfl, _, _, hnc, _⟩
    · cases A <;> simp [Builtin.append_, run_underlying ht, sizeOf, typeInfo, hi, Builtin.lenOf, Builtin.firstCells, loadCells, loadCellsFrom]
    · cases A <;> simp [Builtin.append_, run_underlying ht, sizeOf, typeInfo, hi, Builtin.lenOf, Builtin.firstCells, loadCells, loadCellsFrom, hnc, storeCells]
  · have hpos : 0 < ys.length := List.length_pos_iff.2 hn
    obtain ⟨b, o, cur, fr, rfl, hb, hcell⟩ := h3 hpos
    obtain ⟨news, hnews, hP⟩ := cells_choose (P := fun k u => cur[k]? = some u) ys o hcell
    obtain ⟨v', w', hrun, g2, g3, _, g5⟩ := run_append_own_at (P := P) w base t ty e i z size bytes ht hi hz hsize hby hzs hsz v xs.length cells ho ⟨b, o, none⟩ ys.length c news hnews.1
      (fun j u hu => by
        have := hP j u hu
        have hadd : (⟨b, o, none⟩ : Addr).add j = ⟨b, o + j, none⟩ := by unfold Addr.add; split <;> simp_all
        rw [hadd, cell_of_row w b _ cur e fr hb]; exact this)
      (fun u hu => by
        obtain ⟨k, hk⟩ := List.getElem?_of_mem hu
        have hk' : k < ys.length * size := by rw [← hnews.1]; exact (List.getElem?_eq_some_iff.1 hk).1
        have hj : k / size < ys.length := Nat.div_lt_of_lt_mul (by rw [Nat.mul_comm]; exact hk')
        obtain ⟨cs, hl, he, hcc⟩ := hnews.2 (k / size) ys[k / size] (List.getElem?_eq_getElem hj)
        have hm : k % size < cs.length := by rw [hl]; exact Nat.mod_lt _ hsz
        have := hcc (k % size) cs[k % size] (List.getElem?_eq_getElem hm)
        rw [Nat.mul_comm, Nat.div_add_mod, hk] at this
        injection this with this
        subst this
        exact flat _ _ _ he _ (List.getElem_mem hm)) (by unfold maxLen; omega) hbytes hbase
    have hs : SameT (fun t => t ≠ e) w w' := SameT.grown ho g3 (fun t ht => ht)
    exact ⟨v', w', hrun, ⟨cells ++ news, by rw [List.length_append]; exact g2, (hc.app hnews).same ok (hs.mono hTe)⟩, g3, g5, hs⟩

theorem wp_append_sl {o : Oper} {a : Act} {K : Act → World → Prop} {Q : Exit → Act → World → Prop} (s x : Operand) (t : TypeId)
    (ho : o.op = .call { callee := .builtin .append, args := #[s, x], argTypes := #[t, t] })
    {α : Type} {E : Enc α} {T : TypeId → Prop} (ok : E.Ok T) (flat : E.Flat) (base : Nat) (e : TypeId) (hTe : ∀ t, T t → t ≠ e) (i : TypeInfo) (z : Value) (size bytes : Nat) (ht : P.underlying t = some (.slice e)) (hi : P.info? e = some i) (hz : i.zero = some z)
    (hsize : i.size = size) (hby : i.bytes = bytes) (hzs : z.cells.size = size) (hsz : 0 < size)
    (v : Value) (hs : a.eval s = v) (xs : List α) (hown : Own e size E w base v xs) (sv : Value) (hx : a.eval x = sv) (ys : List α) (hr : RSl e size E w sv ys)
    (h63 : xs.length + ys.length ≤ 9223372036854775807) (hbytes : (xs.length + ys.length) * bytes ≤ 140737488355328) (hbase : base ≤ w.heap.size)
    (h : ∀ v' w', Own e size E w' base v' (xs ++ ys) → w.grownBy w' v.ownBlock → (v'.ownBlock = v.ownBlock ∨ v'.ownBlock = some w.heap.size) → SameT (fun t => t ≠ e) w w' → K (a.put o.dst v') w') : o.wp P a w K Q := by
  obtain ⟨v', w', hr, h2, h3, h4, h5⟩ := run_append_sl (P := P) w ok flat base t o.type e hTe i z size bytes ht hi hz hsize hby hzs hsz v xs hown sv ys hr h63 hbytes hbase
  unfold Oper.wp execOp
  simp only [ho, resolve, invoke, builtin, Sem.run_bind, Sem.run_pure, Result.andThen_ok, List.map_toArray, List.map_cons, List.map_nil, hs, hx, hr]
  exact h v' w' h2 h3 h4 h5

theorem wpList_append_sl {ops : Array Oper} {rest : List Oper} {o : Oper} {a : Act} {Q : Exit → Act → World → Prop} (hgd : o.guard = none) (s x : Operand) (t : TypeId)
    (ho : o.op = .call { callee := .builtin .append, args := #[s, x], argTypes := #[t, t] })
    {α : Type} {E : Enc α} {T : TypeId → Prop} (ok : E.Ok T) (flat : E.Flat) (base : Nat) (e : TypeId) (hTe : ∀ t, T t → t ≠ e) (i : TypeInfo) (z : Value) (size bytes : Nat) (ht : P.underlying t = some (.slice e)) (hi : P.info? e = some i) (hz : i.zero = some z)
    (hsize : i.size = size) (hby : i.bytes = bytes) (hzs : z.cells.size = size) (hsz : 0 < size)
    (v : Value) (hs : a.eval s = v) (xs : List α) (hown : Own e size E w base v xs) (sv : Value) (hx : a.eval x = sv) (ys : List α) (hr : RSl e size E w sv ys)
    (h63 : xs.length + ys.length ≤ 9223372036854775807) (hbytes : (xs.length + ys.length) * bytes ≤ 140737488355328) (hbase : base ≤ w.heap.size)
    (h : ∀ v' w', Own e size E w' base v' (xs ++ ys) → w.grownBy w' v.ownBlock → (v'.ownBlock = v.ownBlock ∨ v'.ownBlock = some w.heap.size) → SameT (fun t => t ≠ e) w w' → wpList P ops Q rest (a.put o.dst v') w') : wpList P ops Q (o :: rest) a w :=
  wpList_plain hgd fun _ hK => wp_append_sl w s x t ho ok flat base e hTe i z size bytes ht hi hz hsize hby hzs hsz v hs xs hown sv hx ys hr h63 hbytes hbase fun v' w' h2 h3 h4 h5 => hK _ _ (h v' w' h2 h3 h4 h5)

theorem step_append_sl {ops : Array Oper} {o : Oper} {a : Act} {K : Act → World → Prop} {Q : Exit → Act → World → Prop} {X : Prop} (hgd : o.guard = none) (s x : Operand) (t : TypeId)
    (ho : o.op = .call { callee := .builtin .append, args := #[s, x], argTypes := #[t, t] })
    {α : Type} {E : Enc α} {T : TypeId → Prop} (ok : E.Ok T) (flat : E.Flat) (base : Nat) (e : TypeId) (hTe : ∀ t, T t → t ≠ e) (i : TypeInfo) (z : Value) (size bytes : Nat) (ht : P.underlying t = some (.slice e)) (hi : P.info? e = some i) (hz : i.zero = some z)
    (hsize : i.size = size) (hby : i.bytes = bytes) (hzs : z.cells.size = size) (hsz : 0 < size)
    (v : Value) (hs : a.eval s = v) (xs : List α) (hown : Own e size E w base v xs) (sv : Value) (hx : a.eval x = sv) (ys : List α) (hr : RSl e size E w sv ys)
    (h63 : xs.length + ys.length ≤ 9223372036854775807) (hbytes : (xs.length + ys.length) * bytes ≤ 140737488355328) (hbase : base ≤ w.heap.size)
    (h : ∀ v' w', Own e size E w' base v' (xs ++ ys) → w.grownBy w' v.ownBlock → (v'.ownBlock = v.ownBlock ∨ v'.ownBlock = some w.heap.size) → SameT (fun t => t ≠ e) w w' → K (a.put o.dst v') w') :
    if Region.wanted o (yielded ops a.tmps) = true then Oper.wp P o a w K Q else X := by
  have hw : Region.wanted o (yielded ops a.tmps) = true := by simp [Region.wanted, hgd]
  rw [if_pos hw]
  exact wp_append_sl w s x t ho ok flat base e hTe i z size bytes ht hi hz hsize hby hzs hsz v hs xs hown sv hx ys hr h63 hbytes hbase h
end
/-- behind an append onto a row of the call's own: all that was there when the call began is as it was -/
theorem Ext.grown {w0 w w' : World} {v : Value} (h : Ext w0 w) (hg : w.grownBy w' v.ownBlock) (hv : ∀ k, v.ownBlock = some k → w0.heap.size ≤ k ∧ k < w.heap.size) : Ext w0 w' :=
  Below.grown h hg h.size fun k hk => (hv k hk).1

/-- ints -/
def EI : Enc Int := fun _ cs x => cs = [.int .i64 x]
theorem EI.ok : EI.Ok (fun _ => False) := fun _ _ _ _ h _ => h
theorem EI.flat : EI.Flat := fun _ _ _ h u hu => by rw [h] at hu; simp at hu; subst hu; rfl
theorem EI.ne : ∀ t, (fun _ => False) t → t ≠ 3 := fun _ h => h.elim
abbrev RI := RSl 3 1 EI
abbrev OI := Own 3 1 EI
theorem RI.same {w w' : World} {v : Value} {xs : List Int} (h : RI w v xs) (ha : SameT (fun t => t = 3) w w') : RI w' v xs := RSl.same_ EI.ok h (ha.mono fun t ht => by rcases ht with h | h; exact h; cases h)
theorem RI.ext {w w' : World} {v : Value} {xs : List Int} (h : RI w v xs) (ha : Ext w w') : RI w' v xs := h.same (ha.same _)

/-- a task -/
def ET : Enc TaskD := fun w cs t => ∃ nv, cs = [.int .i64 t.id, nv] ∧ RI w nv t.need
theorem ET.ok : ET.Ok (fun t => t = 3) := fun _ _ _ _ ⟨nv, h, hr⟩ ha => ⟨nv, h, hr.same ha⟩
theorem ET.flat : ET.Flat := fun _ _ _ ⟨nv, h, hr⟩ u hu => by
  obtain ⟨A, c, rfl, _⟩ := hr
  rw [h] at hu; simp at hu; rcases hu with rfl | rfl <;> rfl
theorem ET.ne : ∀ t, (fun t => t = 3) t → t ≠ 80 := by rintro t rfl; decide
abbrev RT := RSl 80 2 ET
abbrev OT := Own 80 2 ET
theorem RT.same {w w' : World} {v : Value} {xs : List TaskD} (h : RT w v xs) (ha : SameT (fun t => t = 80 ∨ t = 3) w w') : RT w' v xs := RSl.same_ ET.ok h ha
theorem RT.ext {w w' : World} {v : Value} {xs : List TaskD} (h : RT w v xs) (ha : Ext w w') : RT w' v xs := h.same (ha.same _)

def EB : Enc (List TaskD) := fun w cs b => ∃ v, cs = [v] ∧ RT w v b
theorem EB.ok : EB.Ok (fun t => t = 80 ∨ t = 3) := fun _ _ _ _ ⟨v, h, hr⟩ ha => ⟨v, h, hr.same ha⟩
theorem EB.flat : EB.Flat := fun _ _ _ ⟨nv, h, hr⟩ u hu => by
  obtain ⟨A, c, rfl, _⟩ := hr
  rw [h] at hu; simp at hu; subst hu; rfl
theorem EB.ne : ∀ t, (fun t => t = 80 ∨ t = 3) t → t ≠ 42 := by rintro t (rfl | rfl) <;> decide
abbrev RB := RSl 42 1 EB
abbrev OB := Own 42 1 EB
theorem RB.same {w w' : World} {v : Value} {xs : List (List TaskD)} (h : RB w v xs) (ha : SameT (fun t => t = 42 ∨ t = 80 ∨ t = 3) w w') : RB w' v xs := RSl.same_ EB.ok h ha
theorem RB.ext {w w' : World} {v : Value} {xs : List (List TaskD)} (h : RB w v xs) (ha : Ext w w') : RB w' v xs := h.same (ha.same _)

theorem Cells.ints (w : World) (xs : List Int) : Cells 1 EI w (xs.map (Value.int .i64)) xs :=
  ⟨by simp, fun j x hx => ⟨[.int .i64 x], rfl, rfl, fun i u hu => by
    match i, hu with
    | 0, hu => simp at hu; subst hu; simp [hx]⟩⟩
theorem OI.lit (w : World) (xs : List Int) (hl : xs.length ≤ 1000) (base : Nat) (hb : base ≤ w.heap.size) : OI (w.alloc (.cells (xs.map (Value.int .i64)).toArray 3)) base (.slice (some ⟨w.heap.size, 0, none⟩) xs.length xs.length) xs :=
  Own.lit hb (by omega) (Cells.ints _ xs)
theorem RI.lit (w : World) (xs : List Int) (hl : xs.length ≤ 1000) : RI (w.alloc (.cells (xs.map (Value.int .i64)).toArray 3)) (.slice (some ⟨w.heap.size, 0, none⟩) xs.length xs.length) xs :=
  (OI.lit w xs hl w.heap.size (Nat.le_refl _)).read
theorem RI.get {w : World} {v : Value} {xs : List Int} (h : RI w v xs) : ∃ A c, v = .slice A xs.length c ∧ xs.length ≤ c ∧ c ≤ 9223372036854775807 ∧
    ∀ (j : Nat), j < xs.length → ∃ b o x, A = some ⟨b, o, none⟩ ∧ Hid (xs[j]? = some x) ∧ w.cell? ⟨b, o + j, none⟩ = some (.int .i64 x) := by
  obtain ⟨A, c, hv, h1, h2, h⟩ := RSl.get_ h
  refine ⟨A, c, hv, h1, h2, fun j hj => ?_⟩
  obtain ⟨b, o, x, cs, hA, hx, _, he, hc⟩ := h j hj
  subst he
  exact ⟨b, o, x, hA, hx, by simpa using hc 0 _ rfl⟩

theorem RT.get {w : World} {v : Value} {xs : List TaskD} (h : RT w v xs) : ∃ A c, v = .slice A xs.length c ∧ xs.length ≤ c ∧ c ≤ 9223372036854775807 ∧
    ∀ (j : Nat), j < xs.length → ∃ b o x An cn, A = some ⟨b, o, none⟩ ∧ Hid (xs[j]? = some x) ∧ w.cell? ⟨b, o + j * 2, none⟩ = some (.int .i64 x.id) ∧ w.cell? ⟨b, o + j * 2 + 1, none⟩ = some (.slice An x.need.length cn) ∧ RI w (.slice An x.need.length cn) x.need := by
  obtain ⟨A, c, hv, h1, h2, h⟩ := RSl.get_ h
  refine ⟨A, c, hv, h1, h2, fun j hj => ?_⟩
  obtain ⟨b, o, x, cs, hA, hx, _, ⟨nv, he, hr⟩, hc⟩ := h j hj
  subst he
  have hr0 := hr
  obtain ⟨An, cn, rfl, _⟩ := hr
  have hr := hr0
  exact ⟨b, o, x, An, cn, hA, hx, by simpa using hc 0 _ rfl, by simpa [Nat.add_assoc] using hc 1 _ rfl, hr⟩

theorem RB.get {w : World} {v : Value} {xs : List (List TaskD)} (h : RB w v xs) : ∃ A c, v = .slice A xs.length c ∧ xs.length ≤ c ∧ c ≤ 9223372036854775807 ∧
    ∀ (j : Nat), j < xs.length → ∃ b o x An cn, A = some ⟨b, o, none⟩ ∧ Hid (xs[j]? = some x) ∧ w.cell? ⟨b, o + j, none⟩ = some (.slice An x.length cn) ∧ RT w (.slice An x.length cn) x := by
  obtain ⟨A, c, hv, h1, h2, h⟩ := RSl.get_ h
  refine ⟨A, c, hv, h1, h2, fun j hj => ?_⟩
  obtain ⟨b, o, x, cs, hA, hx, _, ⟨nv, he, hr⟩, hc⟩ := h j hj
  subst he
  have hr0 := hr
  obtain ⟨An, cn, rfl, _⟩ := hr
  have hr := hr0
  exact ⟨b, o, x, An, cn, hA, hx, by simpa using hc 0 _ rfl, hr⟩

theorem Bd.at_ {M : Int} {xs : List Int} (h : Bd M xs) {j : Nat} {x : Int} (hx : Hid (xs[j]? = some x)) : -M ≤ x ∧ x ≤ M := h x (List.mem_of_getElem? hx)

def RetRI (w : World) (xs : List Int) (e : Ending) (w' : World) : Prop := ∃ v, e = .returned v ∧ RI w' v xs ∧ Ext w w'
def RetRT (w : World) (xs : List TaskD) (e : Ending) (w' : World) : Prop := ∃ v, e = .returned v ∧ RT w' v xs ∧ Ext w w'
def RetRB (w : World) (xs : List (List TaskD)) (e : Ending) (w' : World) : Prop := ∃ v, e = .returned v ∧ RB w' v xs ∧ Ext w w'
/-- a bool, and nothing that was there has turned -/
def RetB (w : World) (b : Bool) (e : Ending) (w' : World) : Prop := e = .returned (.bool b) ∧ Ext w w'
def RetN (w : World) (b : Int) (e : Ending) (w' : World) : Prop := e = .returned (.int .i64 b) ∧ Ext w w'

def EU : Enc UnitD := fun w cs u => ∃ v, cs = [.bool u.opened, v] ∧ RT w v u.tasks
theorem EU.ok : EU.Ok (fun t => t = 80 ∨ t = 3) := fun _ _ _ _ ⟨v, h, hr⟩ ha => ⟨v, h, hr.same ha⟩
theorem EU.flat : EU.Flat := fun _ _ _ ⟨nv, h, hr⟩ u hu => by
  obtain ⟨A, c, rfl, _⟩ := hr
  rw [h] at hu; simp at hu; rcases hu with rfl | rfl <;> rfl
theorem EU.ne : ∀ t, (fun t => t = 80 ∨ t = 3) t → t ≠ 44 := by rintro t (rfl | rfl) <;> decide
abbrev RU := RSl 44 2 EU
abbrev OU := Own 44 2 EU
theorem RU.same {w w' : World} {v : Value} {xs : List UnitD} (h : RU w v xs) (ha : SameT (fun t => t = 44 ∨ t = 80 ∨ t = 3) w w') : RU w' v xs := RSl.same_ EU.ok h ha
theorem RU.ext {w w' : World} {v : Value} {xs : List UnitD} (h : RU w v xs) (ha : Ext w w') : RU w' v xs := h.same (ha.same _)
theorem RU.get {w : World} {v : Value} {xs : List UnitD} (h : RU w v xs) : ∃ A c, v = .slice A xs.length c ∧ xs.length ≤ c ∧ c ≤ 9223372036854775807 ∧
    ∀ (j : Nat), j < xs.length → ∃ b o x An cn, A = some ⟨b, o, none⟩ ∧ Hid (xs[j]? = some x) ∧ w.cell? ⟨b, o + j * 2, none⟩ = some (.bool x.opened) ∧ w.cell? ⟨b, o + j * 2 + 1, none⟩ = some (.slice An x.tasks.length cn) ∧ RT w (.slice An x.tasks.length cn) x.tasks := by
  obtain ⟨A, c, hv, h1, h2, h⟩ := RSl.get_ h
  refine ⟨A, c, hv, h1, h2, fun j hj => ?_⟩
  obtain ⟨b, o, x, cs, hA, hx, _, ⟨nv, he, hr⟩, hc⟩ := h j hj
  subst he
  have hr0 := hr
  obtain ⟨An, cn, rfl, _⟩ := hr
  have hr := hr0
  exact ⟨b, o, x, An, cn, hA, hx, by simpa using hc 0 _ rfl, by simpa [Nat.add_assoc] using hc 1 _ rfl, hr⟩
/-- a cluster as a value -/
def ClusV (w : World) (v : Value) (c : ClusD) : Prop := ∃ rv uv, v = .agg #[rv, uv] ∧ RI w rv c.room ∧ RU w uv c.units
theorem ClusV.ext {w w' : World} {v : Value} {c : ClusD} (h : ClusV w v c) (ha : Ext w w') : ClusV w' v c := let ⟨rv, uv, h1, h2, h3⟩ := h; ⟨rv, uv, h1, h2.ext ha, h3.ext ha⟩

/-- a unit and the value of its tasks, a row of the call's own -/
def EUV (base : Nat) : Enc (UnitD × Value) := fun w cs p => cs = [.bool p.1.opened, p.2] ∧ OT w base p.2 p.1.tasks
theorem EUV.ok (base : Nat) : (EUV base).Ok (fun t => t = 80 ∨ t = 3) := fun _ _ _ _ ⟨h, hr⟩ ha => ⟨h, hr.same ET.ok ha⟩
theorem EUV.flat (base : Nat) : (EUV base).Flat := fun _ _ _ ⟨h, hr⟩ u hu => by
  obtain ⟨A, c, hv, _⟩ := hr.form
  rw [h] at hu; simp at hu; rcases hu with rfl | rfl
  · rfl
  · rw [hv]; rfl
theorem EUV.ne : ∀ t, (fun t => t = 80 ∨ t = 3) t → t ≠ 44 := EU.ne
def blocksOf (ps : List (UnitD × Value)) : List Nat := ps.filterMap fun p => p.2.ownBlock
abbrev OUV (w : World) (base : Nat) (v : Value) (ps : List (UnitD × Value)) : Prop := Own 44 2 (EUV base) w base v ps
/-- a cluster of the call's own -/
def OCl (w : World) (base : Nat) (cv : Value) (C : ClusD) : Prop := ∃ rv uv ps, cv = .agg #[rv, uv] ∧ RI w rv C.room ∧ OUV w base uv ps ∧ ps.map (·.1) = C.units ∧ (blocksOf ps).Nodup
theorem OUV.read {w : World} {base : Nat} {v : Value} {ps : List (UnitD × Value)} (h : OUV w base v ps) : RU w v (ps.map (·.1)) :=
  (Own.read h).map fun _ p ⟨h1, h2⟩ => ⟨p.2, h1, h2.read⟩
theorem OCl.read {w : World} {base : Nat} {cv : Value} {C : ClusD} (h : OCl w base cv C) : ClusV w cv C := by
  obtain ⟨rv, uv, ps, h1, h2, h3, h4, _⟩ := h
  exact ⟨rv, uv, h1, h2, by rw [← h4]; exact OUV.read h3⟩
theorem OUV.lt {w : World} {base : Nat} {v : Value} {ps : List (UnitD × Value)} (h : OUV w base v ps) : ∀ g ∈ blocksOf ps, base ≤ g ∧ g < w.heap.size := by
  intro g hg
  obtain ⟨p, hp, hb⟩ := List.mem_filterMap.1 hg
  obtain ⟨cells, _, hc⟩ := h
  obtain ⟨k, hk⟩ := List.getElem?_of_mem hp
  obtain ⟨cs, _, he, _⟩ := hc.2 k p hk
  exact he.2.lt g hb
theorem OCl.ext {w w' : World} {base : Nat} {cv : Value} {C : ClusD} (h : OCl w base cv C) (ha : Ext w w') : OCl w' base cv C := let ⟨rv, uv, ps, h1, h2, h3, h4, h5⟩ := h; ⟨rv, uv, ps, h1, h2.ext ha, h3.ext (EUV.ok base) ha, h4, h5⟩

end Go.Proofs.Ytcfpilkhjpegcaa

/- The element types' rows of the table. -/
namespace Go.Proofs.Ytcfpilkhjpegcaa
theorem info_int : (Try.prog.info? 3).map (fun i => (i.zero, i.size, i.bytes)) = some (some (.int .i64 0), 1, 8) := by kernel_rfl
theorem info_task : (Try.prog.info? 80).map (fun i => (i.zero, i.size, i.bytes)) = some (some (.agg #[.int .i64 0, .slice none 0 0]), 2, 32) := by kernel_rfl
theorem info_bin : (Try.prog.info? 42).map (fun i => (i.zero, i.size, i.bytes)) = some (some (.slice none 0 0), 1, 24) := by kernel_rfl
theorem info_unit : (Try.prog.info? 44).map (fun i => (i.zero, i.size, i.bytes)) = some (some (.agg #[.bool false, .slice none 0 0]), 2, 32) := by kernel_rfl
end Go.Proofs.Ytcfpilkhjpegcaa

/- A store into a row of the call's own; the first place where a test says yes. -/
namespace Go.Proofs.Ytcfpilkhjpegcaa
open Go.RowKit
set_option maxRecDepth 4000

theorem mul_add_ne {size j k i i' : Nat} (hi : i < size) (hi' : i' < size) (h : k ≠ j) : k * size + i' ≠ j * size + i := by
  intro he
  have h1 : (k * size + i') / size = k := by rw [Nat.mul_comm, Nat.mul_add_div (by omega), Nat.div_eq_of_lt hi']; rfl
  have h2 : (j * size + i) / size = j := by rw [Nat.mul_comm, Nat.mul_add_div (by omega), Nat.div_eq_of_lt hi]; rfl
  rw [he, h2] at h1
  exact h h1.symm

theorem Cells.set {α : Type} {size : Nat} {E : Enc α} {T : TypeId → Prop} (ok : E.Ok T) {w w' : World} {cells : List Value} {xs : List α} (h : Cells size E w cells xs) (hs : SameT T w w') {j i : Nat} {u : Value} {x x' : α} (hj : xs[j]? = some x) (hi : i < size)
    (hx : ∀ cs : List Value, cs.length = size → E w cs x → E w' (cs.set i u) x') : Cells size E w' (cells.set (j * size + i) u) (xs.set j x') := by
  refine ⟨by simpa using h.1, fun k y hy => ?_⟩
  by_cases hkj : k = j
  · subst hkj
    have hlt : k < xs.length := (List.getElem?_eq_some_iff.1 hj).1
    rw [List.getElem?_set_self hlt] at hy
    injection hy with hy
    subst hy
    obtain ⟨cs, hl, he, hc⟩ := h.2 k x hj
    refine ⟨cs.set i u, by simpa using hl, hx cs hl he, fun i' u' hu' => ?_⟩
    by_cases hii : i' = i
    · subst hii
      rw [List.getElem?_set_self (by omega)] at hu'
      injection hu' with hu'
      subst hu'
      have : k * size + i' < cells.length := by
        rw [h.1]
        have : (k + 1) * size ≤ xs.length * size := Nat.mul_le_mul_right _ hlt
        rw [Nat.add_mul] at this
        omega
      rw [List.getElem?_set_self this]
    · rw [List.getElem?_set_ne (Ne.symm hii)] at hu'
      rw [List.getElem?_set_ne (by omega)]
      exact hc i' u' hu'
  · rw [List.getElem?_set_ne (Ne.symm hkj)] at hy
    obtain ⟨cs, hl, he, hc⟩ := h.2 k y hy
    refine ⟨cs, hl, ok _ _ _ _ he hs, fun i' u' hu' => ?_⟩
    have hi' : i' < size := by rw [← hl]; exact (List.getElem?_eq_some_iff.1 hu').1
    rw [List.getElem?_set_ne (Ne.symm (mul_add_ne hi hi' hkj))]
    exact hc i' u' hu'

/-- a store into element j of a row of the call's own -/
theorem Own.set {α : Type} {e : TypeId} {size : Nat} {E : Enc α} {T : TypeId → Prop} (ok : E.Ok T) (hT : ∀ t, T t → t ≠ e) {w : World} {base g n c : Nat} {xs : List α} (h : Own e size E w base (.slice (some ⟨g, 0, none⟩) n c) xs)
    {j i : Nat} {u : Value} {x x' : α} (hj : xs[j]? = some x) (hi : i < size) (hx : ∀ w', SameT T w w' → ∀ cs : List Value, cs.length = size → E w cs x → E w' (cs.set i u) x') :
    Own e size E (w.setCell ⟨g, j * size + i, none⟩ u) base (.slice (some ⟨g, 0, none⟩) n c) (xs.set j x') ∧ SameT (fun t => t ≠ e) w (w.setCell ⟨g, j * size + i, none⟩ u) := by
  obtain ⟨cells, ho, hc⟩ := h
  have hn : n = xs.length := by
    rcases ho.2 with ⟨h1, _⟩ | ⟨g', cap, cur, h1, _⟩
    · cases h1
    · injection h1
  subst hn
  have hs : SameT (fun t => t ≠ e) w (w.setCell ⟨g, j * size + i, none⟩ u) := by
    rcases ho.2 with ⟨h1, _⟩ | ⟨g', cap, cur, h1, _, hg, _⟩
    · cases h1
    · injection h1 with h1 _ _
      injection h1 with h1
      injection h1 with h1 _ _
      subst h1
      exact SameT.setCell (p := ⟨g, j * size + i, none⟩) hg u (fun t ht => ht)
  have hst := ho.stored (j * size + i) u
  refine ⟨⟨cells.set (j * size + i) u, by rw [List.length_set]; exact hst.1, hc.set ok (hs.mono hT) hj hi (hx _ (hs.mono hT))⟩, hs⟩

theorem OI.set {w : World} {base g n c : Nat} {xs : List Int} (h : OI w base (.slice (some ⟨g, 0, none⟩) n c) xs) {j : Nat} (hj : j < xs.length) (x : Int) :
    OI (w.setCell ⟨g, j, none⟩ (.int .i64 x)) base (.slice (some ⟨g, 0, none⟩) n c) (xs.set j x) ∧ SameT (fun t => t ≠ 3) w (w.setCell ⟨g, j, none⟩ (.int .i64 x)) := by
  have := Own.set EI.ok EI.ne h (j := j) (i := 0) (u := .int .i64 x) (x' := x) (List.getElem?_eq_getElem hj) (by omega) (fun w' _ cs hl he => by rw [he]; rfl)
  simpa using this
/-- what a walk wants of a row of ints ahead of a load or a store -/
theorem OI.at_ {w : World} {base g n c : Nat} {xs : List Int} (h : OI w base (.slice (some ⟨g, 0, none⟩) n c) xs) {j : Nat} {x : Int} (hj : xs[j]? = some x) :
    w.cell? ⟨g, j, none⟩ = some (.int .i64 x) ∧ w.frozen? ⟨g, j, none⟩ = false ∧ base ≤ g := by
  obtain ⟨A, c', hv, _, _, hg⟩ := RI.get h.read
  have hlt : j < xs.length := (List.getElem?_eq_some_iff.1 hj).1
  obtain ⟨b, o, y, hA, he, hcell⟩ := hg j hlt
  injection hv with h1 h2 h3
  subst hA
  injection h1 with h1
  injection h1 with h1 h4 _
  subst h1 h4
  have : y = x := by have := he.out; rw [hj] at this; injection this with this; exact this.symm
  subst this
  have hlt2 := (h.lt g rfl).1
  obtain ⟨cells, ho, _⟩ := h
  have hn : n = xs.length := h2
  subst hn
  exact ⟨by simpa using hcell, ho.frozenAt _, hlt2⟩

/-- the first place where a test says yes, or -1 -/
def idxI {α : Type} (p : α → Bool) (xs : List α) : Int := match xs.findIdx? p with | some i => i | none => -1
theorem idxI_hit {α : Type} {p : α → Bool} {xs : List α} {k : Nat} {x : α} (hx : xs[k]? = some x) (h : p x = true) (hn : ∀ (j : Nat) y, j < k → xs[j]? = some y → p y = false) : idxI p xs = k := by
  have hk : k < xs.length := (List.getElem?_eq_some_iff.1 hx).1
  have hbk : xs[k] = x := (List.getElem?_eq_some_iff.1 hx).2
  have : xs.findIdx? p = some k := by
    rw [List.findIdx?_eq_some_iff_getElem]
    exact ⟨hk, by rw [hbk]; exact h, fun j hj => by simpa using hn j xs[j] hj (List.getElem?_eq_getElem (by omega))⟩
  unfold idxI
  rw [this]
theorem idxI_miss {α : Type} {p : α → Bool} {xs : List α} (hn : ∀ (j : Nat) y, xs[j]? = some y → p y = false) : idxI p xs = -1 := by
  have : xs.findIdx? p = none := by
    rw [List.findIdx?_eq_none_iff]
    intro b hb
    obtain ⟨k, hk⟩ := List.getElem?_of_mem hb
    exact hn k b hk
  unfold idxI
  rw [this]
theorem idxI_ge {α : Type} (p : α → Bool) (xs : List α) : decide (0 ≤ idxI p xs) = xs.any p := by
  unfold idxI
  cases h : xs.findIdx? p with
  | none =>
    rw [List.findIdx?_eq_none_iff] at h
    have : xs.any p = false := by rw [List.any_eq_false]; intro x hx; simp [h x hx]
    rw [this]; simp
  | some i =>
    rw [List.findIdx?_eq_some_iff_getElem] at h
    have : xs.any p = true := List.any_eq_true.2 ⟨xs[i]'h.1, List.getElem_mem _, h.2.1⟩
    rw [this]; simp
theorem idxI_lt {α : Type} (p : α → Bool) (xs : List α) : idxI p xs < xs.length := by
  unfold idxI
  cases h : xs.findIdx? p with
  | none => simp; omega
  | some i =>
    rw [List.findIdx?_eq_some_iff_getElem] at h
    have := h.1
    simp; omega
/-- one place further -/
theorem idx_more {α : Type} {p : α → Bool} {xs : List α} {k : Nat} {x : α} (hx : xs[k]? = some x) (h : p x = false) (hn : ∀ (j : Nat) y, j < k → xs[j]? = some y → p y = false) : ∀ (j : Nat) y, j < k + 1 → xs[j]? = some y → p y = false := by
  intro j y hj hy
  by_cases hjk : j = k
  · subst hjk
    rw [hx] at hy
    injection hy with hy
    rw [← hy]; exact h
  · exact hn j y (by omega) hy
theorem Own.row {α : Type} {e : TypeId} {size : Nat} {E : Enc α} {w : World} {base : Nat} {v : Value} {xs : List α} (h : Own e size E w base v xs) (hp : 0 < xs.length) : ∃ g c, v = .slice (some ⟨g, 0, none⟩) xs.length c ∧ base ≤ g := by
  obtain ⟨cells, ho, _⟩ := h
  rcases ho.2 with ⟨_, h0⟩ | ⟨g, cap, cur, h1, hg, _⟩
  · omega
  · exact ⟨g, cap, h1, hg⟩
theorem set_same {α : Type} {xs : List α} {k : Nat} {x : α} (h : xs[k]? = some x) : xs.set k x = xs := by
  have hk := (List.getElem?_eq_some_iff.1 h).1
  apply List.ext_getElem?
  intro i
  by_cases hik : i = k
  · subst hik
    rw [List.getElem?_set_self hk, h]
  · rw [List.getElem?_set_ne (Ne.symm hik)]
/-- a struct of two cells is stored into a block -/
theorem box2 {W : World} {H : Nat} {z0 z1 : Value} {t : TypeId} (pH : W.heap[H]? = some (.cells #[z0, z1] t (0, 0))) (u v : Value) :
    W.cell? ⟨H, 0, none⟩ = some z0 ∧ W.cell? ⟨H, 1, none⟩ = some z1 ∧ W.frozen? ⟨H, 0, none⟩ = false ∧ W.frozen? ⟨H, 1, none⟩ = false ∧
    (W.setCell ⟨H, 0, none⟩ u).cell? ⟨H, 1, none⟩ = some z1 ∧ (W.setCell ⟨H, 0, none⟩ u).frozen? ⟨H, 1, none⟩ = false ∧
    ((W.setCell ⟨H, 0, none⟩ u).setCell ⟨H, 1, none⟩ v).heap[H]? = some (.cells #[u, v] t (0, 0)) ∧
    (∀ T : TypeId → Prop, (∀ s, T s → s ≠ t) → SameT T W ((W.setCell ⟨H, 0, none⟩ u).setCell ⟨H, 1, none⟩ v)) := by
  have k := obj_set pH 0 u
  exact ⟨obj_cell pH (i := 0) rfl, obj_cell pH (i := 1) rfl, obj_frozen pH 0, obj_frozen pH 1, obj_cell k (i := 1) rfl, obj_frozen k 1, obj_set2 pH u v,
    fun T hT => (SameT.setCell (p := ⟨H, 0, none⟩) pH u hT).trans (SameT.setCell (p := ⟨H, 1, none⟩) k v hT)⟩
end Go.Proofs.Ytcfpilkhjpegcaa

/- A region that draws its order: operations that yield their value in every world that meets S are taken first; behind an operation that waits for all of these S need not be shown. -/
namespace Go.Proofs.Ytcfpilkhjpegcaa
open Go.RowKit
set_option maxRecDepth 4000

section
variable {P : Program} {ops : Array Oper} {Q : Exit → Act → World → Prop} {md : Region.Mode} {S : World → Prop} {X : List Nat}

/-- operation j waits, step by step, for operation i -/
def reachB (md : Region.Mode) (ops : Array Oper) : Nat → Nat → Nat → Bool
  | 0, _, _ => false
  | f + 1, j, i => match ops[j]? with
    | none => false
    | some o => o.after.any fun e => Region.binds md e && (e.on == i || reachB md ops f e.on i)

/-- whatever has come up, all that it waits for has come up -/
def Shut2 (md : Region.Mode) (ops : Array Oper) (listed : Array Bool) : Prop := ∀ j o, ops[j]? = some o → listed.getD j false = true → ∀ e ∈ o.after, Region.binds md e = true → listed.getD e.on false = true

theorem getD_repl (m j : Nat) : (Array.replicate m false).getD j false = false := by
  rcases Nat.lt_or_ge j m with h | h
  · simp [h]
  · simp [h]
theorem Shut2.start : Shut2 md ops (Array.replicate ops.size false) := fun j o _ hl => by rw [getD_repl] at hl; cases hl

theorem Shut2.set {i : Nat} {listed : Array Bool} (h : Shut2 md ops listed) (hi : i ∈ Region.ready md ops listed) : Shut2 md ops (listed.setIfInBounds i true) := by
  intro j o ho hl e he hb
  by_cases hij : i = j
  · subst hij
    obtain ⟨_, oi, hoi, hall⟩ := mem_ready.1 hi
    rw [ho] at hoi
    injection hoi with hoi
    subst hoi
    exact getD_set_true (hall e he hb)
  · rw [getD_set_ne false hij] at hl
    exact getD_set_true (h j o ho hl e he hb)

theorem reach_listed {listed : Array Bool} (hs : Shut2 md ops listed) {i : Nat} : ∀ (f j : Nat), reachB md ops f j i = true → (∀ o, ops[j]? = some o → ∀ e ∈ o.after, Region.binds md e = true → listed.getD e.on false = true) → listed.getD i false = true
  | 0, _, h, _ => by simp [reachB] at h
  | f + 1, j, h, hj => by
    unfold reachB at h
    split at h
    · cases h
    · rename_i o ho
      rw [Array.any_eq_true'] at h
      obtain ⟨e, he, h⟩ := h
      simp only [Bool.and_eq_true, Bool.or_eq_true, beq_iff_eq] at h
      have hl := hj o ho e he h.1
      rcases h.2 with h2 | h2
      · rw [← h2]; exact hl
      · exact reach_listed hs f e.on h2 (fun o' ho' e' he' hb' => hs e.on o' ho' hl e' he' hb')

/-- whatever order is picked from here on; S holds behind each operation that is carried out, but for those of X -/
def wpAnyG (P : Program) (md : Region.Mode) (ops : Array Oper) (Q : Exit → Act → World → Prop) (S : World → Prop) (X : List Nat) : Nat → Array Bool → Act → World → Prop
  | 0, listed, a, w => Region.ready md ops listed = [] ∧ Q .normal a w
  | fuel + 1, listed, a, w =>
    (Region.ready md ops listed = [] → Q .normal a w) ∧
    ∀ i ∈ Region.ready md ops listed, wpOp P ops Q i (fun a' w' => (X.contains i = false → S w') ∧ wpAnyG P md ops Q S X fuel (listed.setIfInBounds i true) a' w') a w

theorem wpAny_of_G : ∀ (fuel : Nat) (listed : Array Bool) (a : Act) (w : World), wpAnyG P md ops Q S X fuel listed a w → wpAny P md ops Q fuel listed a w
  | 0, _, _, _, h => h
  | fuel + 1, _, _, _, h => ⟨h.1, fun i hi => wpOp_mono (fun a' w' h' => wpAny_of_G fuel _ a' w' h'.2) (h.2 i hi)⟩

theorem wpAnyG_first {i : Nat} {oi : Oper} {v : Value} (hi : ops[i]? = some oi) (hsel : ∀ (j : Nat) (o : Oper) cs b, ops[j]? = some o → o.op ≠ .select cs b)
    (hQ : ∀ c a w, Q (.panic c) (a.put oi.dst v) w → Q (.panic c) a w) (hX : ∀ j, X.contains j = true → reachB md ops ops.size j i = true) :
    ∀ (fuel : Nat) (listed : Array Bool) (a : Act) (w : World), Shut2 md ops listed →
      (∀ j oj, ops[j]? = some oj → j ≠ i → listed.getD j true = false → (∀ e ∈ oj.after, Region.binds md e = true → e.on ≠ i) → oi.apart ops oj = true) →
      i ∈ Region.ready md ops listed → YieldsIf P ops S oi v a → S w →
      wpAnyG P md ops Q S X fuel (listed.setIfInBounds i true) (a.put oi.dst v) w → wpAnyG P md ops Q S X (fuel + 1) listed a w := by
  intro fuel
  induction fuel with
  | zero =>
    intro listed a w _ _ hr hy hS H
    refine ⟨fun h => (by rw [h] at hr; cases hr), fun j hj => ?_⟩
    by_cases hji : j = i
    · subst hji; exact hy.wpOp hi hS ⟨fun _ => hS, H⟩
    · have := ready_mono hj hji
      rw [H.1] at this
      cases this
  | succ fuel ih =>
    intro listed a w hsh hfree hr hy hS H
    refine ⟨fun h => (by rw [h] at hr; cases hr), fun j hj => ?_⟩
    by_cases hji : j = i
    · subst hji; exact hy.wpOp hi hS ⟨fun _ => hS, H⟩
    · have h1 := H.2 j (ready_mono hj hji)
      obtain ⟨hjun, oj, hoj, hall⟩ := mem_ready.1 hj
      have h0 := (mem_ready.1 hr).1
      have hnot : ∀ e ∈ oj.after, Region.binds md e = true → e.on ≠ i := fun e he hb heq => by
        have h1 := hall e he hb
        rw [heq] at h1
        rcases Nat.lt_or_ge i listed.size with h' | h'
        · simp [h'] at h0 h1; rw [h0] at h1; cases h1
        · simp [Array.getElem?_eq_none h'] at h1
      have hjX : X.contains j = false := by
        cases hc : X.contains j with
        | false => rfl
        | true =>
          have h1 := reach_listed hsh _ j (hX j hc) (fun o ho e he hb => by rw [hoj] at ho; injection ho with ho; subst ho; exact hall e he hb)
          rcases Nat.lt_or_ge i listed.size with h' | h'
          · simp [h'] at h0 h1; rw [h0] at h1; cases h1
          · simp [Array.getElem?_eq_none h'] at h1
      have h2 := wpOp_putIf hoj (hfree j oj hoj hji hjun hnot) (fun cs b => hsel i oi cs b hi) (fun cs b => hsel j oj cs b hoj) hQ hy h1
      have hfree' : ∀ k ok, ops[k]? = some ok → k ≠ i → (listed.setIfInBounds j true).getD k true = false →
          (∀ e ∈ ok.after, Region.binds md e = true → e.on ≠ i) → oi.apart ops ok = true := fun k ok hk hki hun hno => by
        refine hfree k ok hk hki ?_ hno
        by_cases hjk : j = k
        · subst hjk; exact hjun
        · rw [getD_set_ne true hjk] at hun; exact hun
      refine wpOp_mono (fun a' w' h3 => ⟨h3.2.1, ih (listed.setIfInBounds j true) a' w' (hsh.set hj) hfree' (ready_mono hr (Ne.symm hji)) h3.1 (h3.2.1 hjX) ?_⟩) h2
      rw [Array.setIfInBounds_comm _ _ hji]
      exact h3.2.2

/-- the state of the walk: with what has come up shut -/
def WG (P : Program) (ops : Array Oper) (Q : Exit → Act → World → Prop) (S : World → Prop) (X : List Nat) (fuel : Nat) (listed : Array Bool) (a : Act) (w : World) : Prop :=
  Shut2 .any ops listed → wpAnyG P .any ops Q S X fuel listed a w

end

section
variable {P : Program} {l : List Oper} {Q : Exit → Act → World → Prop} {S : World → Prop} {X : List Nat}
/-- take number i first -/
theorem WG.take {i : Nat} {oi : Oper} {v : Value} {fuel : Nat} {listed : Array Bool} {a : Act} {w : World} (hi : l[i]? = some oi)
    (hs : Region.noSelect l.toArray = true) (hf : Region.free .any l.toArray listed i = true) (hr : (Region.ready .any l.toArray listed).contains i = true) (hX : (X.all fun j => reachB .any l.toArray l.toArray.size j i) = true)
    (hQ : ∀ c a w, Q (.panic c) (a.put oi.dst v) w → Q (.panic c) a w) (hy : YieldsIf P l.toArray S oi v a) (hS : S w)
    (h : WG P l.toArray Q S X fuel (listed.setIfInBounds i true) (a.put oi.dst v) w) : WG P l.toArray Q S X (fuel + 1) listed a w := fun hsh =>
  have hr' : i ∈ Region.ready .any l.toArray listed := by simpa using hr
  have hi' : l.toArray[i]? = some oi := by simpa using hi
  wpAnyG_first hi' (Region.noSelect_spec hs) hQ (fun j hj => List.all_eq_true.1 hX j (by simpa using hj)) fuel listed a w hsh (Region.free_spec hi' hf) hr' hy hS (h (hsh.set hr'))

/-- the one operation that may come up now; S is to be shown behind it -/
theorem WG.one {i : Nat} {o : Oper} {fuel : Nat} {listed : Array Bool} {a : Act} {w : World} (ho : l[i]? = some o) (hr : Region.ready .any l.toArray listed = [i])
    (h : ∀ K' : Act → World → Prop, Shut (∀ a w, S w → (S w → WG P l.toArray Q S X fuel (listed.setIfInBounds i true) a w) → K' a w) → if Region.wanted o (yielded l.toArray a.tmps) = true then Oper.wp P o a w K' Q else K' (a.put o.dst undef) w) :
    WG P l.toArray Q S X (fuel + 1) listed a w := fun hsh => by
  have hi : i ∈ Region.ready .any l.toArray listed := by rw [hr]; simp
  refine ⟨fun h0 => absurd (hr.symm.trans h0) (by simp), fun j hj => ?_⟩
  rw [hr] at hj
  simp at hj
  subst hj
  exact wpOp_step (by simpa using ho) fun K' hK => h K' fun a w hS hW => hK a w ⟨fun _ => hS, hW hS (hsh.set hi)⟩

/-- the same for an operation that waits for all that was taken first: nothing is to be shown behind it -/
theorem WG.last {i : Nat} {o : Oper} {fuel : Nat} {listed : Array Bool} {a : Act} {w : World} (ho : l[i]? = some o) (hr : Region.ready .any l.toArray listed = [i]) (hx : X.contains i = true)
    (h : ∀ K' : Act → World → Prop, Shut (∀ a w, WG P l.toArray Q S X fuel (listed.setIfInBounds i true) a w → K' a w) → if Region.wanted o (yielded l.toArray a.tmps) = true then Oper.wp P o a w K' Q else K' (a.put o.dst undef) w) :
    WG P l.toArray Q S X (fuel + 1) listed a w := fun hsh => by
  have hi : i ∈ Region.ready .any l.toArray listed := by rw [hr]; simp
  refine ⟨fun h0 => absurd (hr.symm.trans h0) (by simp), fun j hj => ?_⟩
  rw [hr] at hj
  simp at hj
  subst hj
  exact wpOp_step (by simpa using ho) fun K' hK => h K' fun a w hW => hK a w ⟨(fun hc => by rw [hx] at hc; cases hc), hW (hsh.set hi)⟩
end

section
variable {P : Program} {ops : Array Oper} {Q : Exit → Act → World → Prop} {S : World → Prop} {X : List Nat}
/-- all have come up -/
theorem WG.done {listed : Array Bool} {a : Act} {w : World} {fuel : Nat} (hr : Region.ready .any ops listed = []) (h : Q .normal a w) : WG P ops Q S X fuel listed a w := fun _ => by
  cases fuel with
  | zero => exact ⟨hr, h⟩
  | succ n => exact ⟨fun _ => h, by rw [hr]; simp⟩

/-- the beginning -/
theorem WG.start {id : Nat} {a : Act} {w : World} (S : World → Prop) (X : List Nat) (hm : P.follows .mixedOrders = true) (hS : S w.drew)
    (h : S w.drew → WG P ops Q S X ops.size (Array.replicate ops.size false) a w.drew) : (Code.region id ops true).wp P Q a w :=
  wp_region_any hm (wpAny_of_G _ _ _ _ (h hS Shut2.start))
end

end Go.Proofs.Ytcfpilkhjpegcaa

/- Regions that draw: an operation that yields in whatever world is taken first, though S may be gone. -/
namespace Go.Proofs.Ytcfpilkhjpegcaa
open Go.RowKit
set_option maxRecDepth 4000

section
variable {P : Program} {ops : Array Oper} {Q : Exit → Act → World → Prop} {md : Region.Mode} {S : World → Prop} {X : List Nat}
theorem wpAnyG_firstP {i : Nat} {oi : Oper} {v : Value} (hi : ops[i]? = some oi) (hsel : ∀ (j : Nat) (o : Oper) cs b, ops[j]? = some o → o.op ≠ .select cs b)
    (hQ : ∀ c a w, Q (.panic c) (a.put oi.dst v) w → Q (.panic c) a w) (hX : X.contains i = true) :
    ∀ (fuel : Nat) (listed : Array Bool) (a : Act) (w : World),
      (∀ j oj, ops[j]? = some oj → j ≠ i → listed.getD j true = false → (∀ e ∈ oj.after, Region.binds md e = true → e.on ≠ i) → oi.apart ops oj = true) →
      i ∈ Region.ready md ops listed → YieldsIf P ops (fun _ => True) oi v a →
      wpAnyG P md ops Q S X fuel (listed.setIfInBounds i true) (a.put oi.dst v) w → wpAnyG P md ops Q S X (fuel + 1) listed a w := by
  have hno : ∀ w', X.contains i = false → S w' := fun w' h => by rw [hX] at h; cases h
  intro fuel
  induction fuel with
  | zero =>
    intro listed a w _ hr hy H
    refine ⟨fun h => (by rw [h] at hr; cases hr), fun j hj => ?_⟩
    by_cases hji : j = i
    · subst hji; exact hy.wpOp hi trivial ⟨hno _, H⟩
    · have := ready_mono hj hji
      rw [H.1] at this
      cases this
  | succ fuel ih =>
    intro listed a w hfree hr hy H
    refine ⟨fun h => (by rw [h] at hr; cases hr), fun j hj => ?_⟩
    by_cases hji : j = i
    · subst hji; exact hy.wpOp hi trivial ⟨hno _, H⟩
    · have h1 := H.2 j (ready_mono hj hji)
      obtain ⟨hjun, oj, hoj, hall⟩ := mem_ready.1 hj
      have h0 := (mem_ready.1 hr).1
      have hnot : ∀ e ∈ oj.after, Region.binds md e = true → e.on ≠ i := fun e he hb heq => by
        have h1 := hall e he hb
        rw [heq] at h1
        rcases Nat.lt_or_ge i listed.size with h' | h'
        · simp [h'] at h0 h1; rw [h0] at h1; cases h1
        · simp [Array.getElem?_eq_none h'] at h1
      have h2 := wpOp_putIf hoj (hfree j oj hoj hji hjun hnot) (fun cs b => hsel i oi cs b hi) (fun cs b => hsel j oj cs b hoj) hQ hy h1
      have hfree' : ∀ k ok, ops[k]? = some ok → k ≠ i → (listed.setIfInBounds j true).getD k true = false →
          (∀ e ∈ ok.after, Region.binds md e = true → e.on ≠ i) → oi.apart ops ok = true := fun k ok hk hki hun hno => by
        refine hfree k ok hk hki ?_ hno
        by_cases hjk : j = k
        · subst hjk; exact hjun
        · rw [getD_set_ne true hjk] at hun; exact hun
      refine wpOp_mono (fun a' w' h3 => ⟨h3.2.1, ih (listed.setIfInBounds j true) a' w' hfree' (ready_mono hr (Ne.symm hji)) h3.1 ?_⟩) h2
      rw [Array.setIfInBounds_comm _ _ hji]
      exact h3.2.2
end
section
variable {P : Program} {l : List Oper} {Q : Exit → Act → World → Prop} {S : World → Prop} {X : List Nat}
/-- take number i, one of X, first -/
theorem WG.takeP {i : Nat} {oi : Oper} {v : Value} {fuel : Nat} {listed : Array Bool} {a : Act} {w : World} (hi : l[i]? = some oi)
    (hs : Region.noSelect l.toArray = true) (hf : Region.free .any l.toArray listed i = true) (hr : (Region.ready .any l.toArray listed).contains i = true) (hX : X.contains i = true)
    (hQ : ∀ c a w, Q (.panic c) (a.put oi.dst v) w → Q (.panic c) a w) (hy : YieldsIf P l.toArray (fun _ => True) oi v a)
    (h : WG P l.toArray Q S X fuel (listed.setIfInBounds i true) (a.put oi.dst v) w) : WG P l.toArray Q S X (fuel + 1) listed a w := fun hsh =>
  have hr' : i ∈ Region.ready .any l.toArray listed := by simpa using hr
  have hi' : l.toArray[i]? = some oi := by simpa using hi
  wpAnyG_firstP hi' (Region.noSelect_spec hs) hQ hX fuel listed a w (Region.free_spec hi' hf) hr' hy (h (hsh.set hr'))
/-- one of two operations comes up -/
theorem WG.two {i j : Nat} {oi oj : Oper} {fuel : Nat} {listed : Array Bool} {a : Act} {w : World} (hoi : l[i]? = some oi) (hoj : l[j]? = some oj) (hr : Region.ready .any l.toArray listed = [i, j])
    (hi : ∀ K' : Act → World → Prop, Shut (∀ a w, S w → (S w → WG P l.toArray Q S X fuel (listed.setIfInBounds i true) a w) → K' a w) → if Region.wanted oi (yielded l.toArray a.tmps) = true then Oper.wp P oi a w K' Q else K' (a.put oi.dst undef) w)
    (hj : ∀ K' : Act → World → Prop, Shut (∀ a w, S w → (S w → WG P l.toArray Q S X fuel (listed.setIfInBounds j true) a w) → K' a w) → if Region.wanted oj (yielded l.toArray a.tmps) = true then Oper.wp P oj a w K' Q else K' (a.put oj.dst undef) w) :
    WG P l.toArray Q S X (fuel + 1) listed a w := fun hsh => by
  have hi2 : i ∈ Region.ready .any l.toArray listed := by rw [hr]; simp
  have hj2 : j ∈ Region.ready .any l.toArray listed := by rw [hr]; simp
  refine ⟨fun h0 => absurd (hr.symm.trans h0) (by simp), fun k hk => ?_⟩
  rw [hr] at hk
  simp at hk
  rcases hk with rfl | rfl
  · exact wpOp_step (by simpa using hoi) fun K' hK => hi K' fun a w hS hW => hK a w ⟨fun _ => hS, hW hS (hsh.set hi2)⟩
  · exact wpOp_step (by simpa using hoj) fun K' hK => hj K' fun a w hS hW => hK a w ⟨fun _ => hS, hW hS (hsh.set hj2)⟩
end
section
variable {P : Program} {ops : Array Oper} {Q : Exit → Act → World → Prop} {md : Region.Mode} {S S' : World → Prop} {X : List Nat}
theorem wpAnyG_mono (h : ∀ w, S' w → S w) : ∀ (fuel : Nat) (listed : Array Bool) (a : Act) (w : World), wpAnyG P md ops Q S' X fuel listed a w → wpAnyG P md ops Q S X fuel listed a w
  | 0, _, _, _, H => H
  | fuel + 1, _, _, _, H => ⟨H.1, fun i hi => wpOp_mono (fun a' w' k => ⟨fun hx => h _ (k.1 hx), wpAnyG_mono h fuel _ a' w' k.2⟩) (H.2 i hi)⟩
/-- from here on more is kept -/
theorem WG.strong {fuel : Nat} {listed : Array Bool} {a : Act} {w : World} (S' : World → Prop) (h : ∀ w, S' w → S w) (hS : S' w) (H : S' w → WG P ops Q S' X fuel listed a w) : WG P ops Q S X fuel listed a w := fun hsh => wpAnyG_mono h _ _ _ _ (H hS hsh)
end
end Go.Proofs.Ytcfpilkhjpegcaa
