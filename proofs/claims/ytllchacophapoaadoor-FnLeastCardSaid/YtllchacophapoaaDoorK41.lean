/- Words for LeastAll's memory: nodes whose tasks read as they did at the door; the stack. -/
import Derived.Test.YtllchacophapoaaDoorK40
import Derived.Test.YtllchacophapoaaDoorK44
import Derived.Test.YtllchacophapoaaDoorK33
import Derived.Test.YtllchacophapoaaDoorK6
import Derived.Test.YtllchacophapoaaDoorK9
namespace Go.Proofs.YtllchacophapoaaDoor
open Go.RowKit
set_option maxRecDepth 4000

theorem info_trial : (Tryd.prog.info? 54).map (fun i => (i.zero, i.size, i.bytes)) = some (some (.agg #[.int .i64 0]), 1, 8) := by kernel_rfl
theorem ETr.ne : ∀ t, (fun _ => False) t → t ≠ 54 := fun _ h => h.elim
abbrev OTr (w : World) (base : Nat) (v : Value) (xs : List Int) : Prop := Own 54 1 EI w base v xs
/-- a task whose need reads as it did at the door -/
def EZ (w0 : World) : Enc TaskD := fun _ cs t => ∃ nv, cs = [.int .i64 t.id, nv] ∧ RI w0 nv t.need
theorem EZ.ok (w0 : World) : (EZ w0).Ok (fun _ => False) := fun _ _ _ _ h _ => h
theorem EZ.flat (w0 : World) : (EZ w0).Flat := fun _ _ _ ⟨nv, h, hr⟩ u hu => by
  obtain ⟨A, c, hv, _⟩ := hr
  rw [h] at hu; simp at hu; rcases hu with rfl | rfl
  · rfl
  · rw [hv]; rfl
theorem EZ.ne : ∀ t, (fun _ => False) t → t ≠ 44 := fun _ h => h.elim
abbrev OZ (w0 w : World) (base : Nat) (v : Value) (ts : List TaskD) : Prop := Own 44 2 (EZ w0) w base v ts
theorem OZ.read {w0 w : World} {base : Nat} {v : Value} {ts : List TaskD} (h : OZ w0 w base v ts) (hx : Ext w0 w) : RT w v ts := by
  have := (Own.read h).map (E' := ET) (f := id) (fun cs x ⟨nv, h1, h2⟩ => ⟨nv, h1, RI.ext h2 hx⟩)
  rwa [List.map_id] at this
/-- a node of the call's own -/
def EBZ (w0 : World) (base : Nat) : Enc (List TaskD × Value) := fun w cs p => cs = [p.2] ∧ OZ w0 w base p.2 p.1
theorem EBZ.ok (w0 : World) (base : Nat) : (EBZ w0 base).Ok (fun t => t = 44) := fun _ _ _ _ ⟨h, hr⟩ ha => ⟨h, hr.same (EZ.ok w0) (ha.mono fun t ht => by rcases ht with ht | ht; exact ht; exact ht.elim)⟩
theorem EBZ.flat (w0 : World) (base : Nat) : (EBZ w0 base).Flat := fun _ _ _ ⟨h, hr⟩ u hu => by
  obtain ⟨A, c, hv, _⟩ := hr.form
  rw [h] at hu; simp at hu; subst hu
  rw [hv]; rfl
theorem EBZ.ne : ∀ t, (fun t => t = 44) t → t ≠ 28 := by rintro t rfl; decide
abbrev OBZ (w0 w : World) (base : Nat) (v : Value) (ps : List (List TaskD × Value)) : Prop := Own 28 1 (EBZ w0 base) w base v ps
theorem OBZ.mem {w0 w : World} {base : Nat} {v : Value} {ps : List (List TaskD × Value)} (h : OBZ w0 w base v ps) {k : Nat} {p : List TaskD × Value} (hk : ps[k]? = some p) : OZ w0 w base p.2 p.1 := by
  obtain ⟨cells, _, hc⟩ := h
  obtain ⟨cs, _, he, _⟩ := hc.2 k p hk
  exact he.2
theorem OBZ.lt {w0 w : World} {base : Nat} {v : Value} {ps : List (List TaskD × Value)} (h : OBZ w0 w base v ps) : ∀ g ∈ blocksOfB ps, base ≤ g ∧ g < w.heap.size := by
  intro g hg
  obtain ⟨p, hp, hb⟩ := List.mem_filterMap.1 hg
  obtain ⟨k, hk⟩ := List.getElem?_of_mem hp
  exact (OBZ.mem h hk).lt g hb
theorem OBZ.same_ {w0 w w' : World} {base : Nat} {v : Value} {ps : List (List TaskD × Value)} (h : OBZ w0 w base v ps) (ha : SameT (fun t => t = 28 ∨ t = 44) w w') : OBZ w0 w' base v ps := Own.same (EBZ.ok w0 base) h ha
theorem OBZ.read {w0 w : World} {base : Nat} {v : Value} {ps : List (List TaskD × Value)} (h : OBZ w0 w base v ps) (hx : Ext w0 w) : RB w v (ps.map (·.1)) :=
  (Own.read h).map fun _ p ⟨h1, h2⟩ => ⟨p.2, h1, OZ.read h2 hx⟩
theorem OBZ.at_ {w0 w : World} {base g n c : Nat} {ps : List (List TaskD × Value)} (h : OBZ w0 w base (.slice (some ⟨g, 0, none⟩) n c) ps) {k : Nat} {p : List TaskD × Value} (hk : ps[k]? = some p) :
    w.cell? ⟨g, k, none⟩ = some p.2 ∧ w.frozen? ⟨g, k, none⟩ = false ∧ OZ w0 w base p.2 p.1 ∧ p.2.ownBlock ≠ some g := by
  obtain ⟨cs, _, ⟨he, hn⟩, hc⟩ := Own.at_ h hk
  subst he
  exact ⟨by simpa using hc 0 _ rfl, h.frozen_ _, hn, fun e => Own.block_ne (by decide) hn h e rfl⟩
/-- one node's row has turned, and the node takes it -/
theorem OBZ.turn {w0 w w' : World} {base g n c : Nat} {ps : List (List TaskD × Value)} (h : OBZ w0 w base (.slice (some ⟨g, 0, none⟩) n c) ps) (hnd : (blocksOfB ps).Nodup) {k : Nat} {p : List TaskD × Value} (hk : ps[k]? = some p) (hg : ∀ q, q < w.heap.size → p.2.ownBlock ≠ some q → w'.heap[q]? = w.heap[q]?) {v' : Value} {ts : List TaskD} (ht : OZ w0 w' base v' ts) :
    OBZ w0 (w'.setCell ⟨g, k, none⟩ v') base (.slice (some ⟨g, 0, none⟩) n c) (ps.set k (ts, v')) ∧ SameT (fun t => t ≠ 28) w' (w'.setCell ⟨g, k, none⟩ v') := by
  have h0 := h
  have hug := (OBZ.at_ h hk).2.2.2
  obtain ⟨cells, ho, hc⟩ := h
  have hn : n = ps.length := by
    rcases ho.2 with ⟨h1, _⟩ | ⟨g', cap, cur, h1, _⟩
    · cases h1
    · injection h1
  subst hn
  rcases ho.2 with ⟨h1, _⟩ | ⟨g', cap, cur, h1, hb, hh, hr⟩
  · cases h1
  have h1' := h1
  injection h1 with h1 _ _
  injection h1 with h1
  injection h1 with h1 _ _
  subst h1
  have hh' : w'.heap[g]? = some (.cells cur 28 (0, 0)) := (hg g (obj_lt hh) hug).trans hh
  have ho' : w'.ownsRow base 28 1 (.slice (some ⟨g, 0, none⟩) ps.length c) ps.length cells := ⟨ho.1, .inr ⟨g, cap, cur, h1', hb, hh', hr⟩⟩
  have hs2 : SameT (fun t => t ≠ 28) w' (w'.setCell ⟨g, k, none⟩ v') := SameT.setCell (p := ⟨g, k, none⟩) hh' v' (fun t ht => ht)
  have hst := ho'.stored k v'
  refine ⟨⟨cells.set k v', by rw [List.length_set]; exact hst.1, ?_⟩, hs2⟩
  have hcx := Cells.setx (i := 0) (u := v') (x' := (ts, v')) (w' := w'.setCell ⟨g, k, none⟩ v') hc hk (by omega) (fun i z cs hik hz ⟨he, hty⟩ => ⟨he, ?_⟩) (fun cs hl ⟨he, _⟩ => ⟨by rw [he]; rfl, Own.same (EZ.ok w0) ht (hs2.mono (by rintro t (rfl | h); decide; exact h.elim))⟩)
  · simpa using hcx
  · refine Own.far hty (fun a ha => ?_) (fun _ _ _ he => he)
    have hag : a ≠ g := fun e => Own.block_ne (by decide) hty h0 ha (by rw [e]; rfl)
    exact (Below.heap_setCell _ _ _ _ hag).trans (hg a (Own.lt hty a ha).2 (fun e => blocksB_apart hnd hz hk hik ha e))
theorem nodup_setZ {ps : List (List TaskD × Value)} (hnd : (blocksOfB ps).Nodup) {k H : Nat} {u y : List TaskD × Value} (hk : ps[k]? = some u) (hv : y.2.ownBlock = u.2.ownBlock ∨ y.2.ownBlock = some H) (hH : ∀ g ∈ blocksOfB ps, g < H) : (blocksOfB (ps.set k y)).Nodup := by
  rcases hv with hv | hv
  · have e : ∀ qs : List (List TaskD × Value), blocksOfB qs = (qs.map (fun p => p.2.ownBlock)).filterMap id := fun qs => by unfold blocksOfB; rw [List.filterMap_map]; rfl
    have e2 : blocksOfB (ps.set k y) = blocksOfB ps := by
      rw [e, e, List.map_set]
      congr 1
      exact set_same (x := y.2.ownBlock) (by rw [List.getElem?_map, hk, hv]; rfl)
    rw [e2]; exact hnd
  · unfold blocksOfB at hnd ⊢
    rw [List.nodup_iff_pairwise_ne, List.pairwise_filterMap, List.pairwise_iff_getElem] at hnd ⊢
    have hb : ∀ (i : Nat) (hi : i < ps.length) b, ps[i].2.ownBlock = some b → b < H := fun i hi b hb => hH b (List.mem_filterMap.2 ⟨_, List.getElem_mem hi, hb⟩)
    intro i j hi hj hij b hbi c hcj
    simp only [List.length_set] at hi hj
    rw [List.getElem_set] at hbi hcj
    split at hbi <;> split at hcj
    · omega
    · rw [hv] at hbi
      injection hbi with hbi
      have := hb j hj c hcj
      omega
    · rw [hv] at hcj
      injection hcj with hcj
      have := hb i hi b hbi
      omega
    · exact hnd i j hi hj hij b hbi c hcj
theorem nodup_take {ps : List (List TaskD × Value)} (h : (blocksOfB ps).Nodup) (k : Nat) : (blocksOfB (ps.take k)).Nodup := by
  unfold blocksOfB at h ⊢
  exact h.sublist ((List.take_sublist k ps).filterMap _)
theorem nodup_newB {ps : List (List TaskD × Value)} {y : List TaskD × Value} {H : Nat} (h : (blocksOfB ps).Nodup) (h1 : ∀ g ∈ blocksOfB ps, g < H) (h2 : ∀ g, y.2.ownBlock = some g → H ≤ g) : (blocksOfB (ps ++ [y])).Nodup := by
  have e : blocksOfB (ps ++ [y]) = blocksOfB ps ++ y.2.ownBlock.toList := by
    unfold blocksOfB
    rw [List.filterMap_append]
    cases hb : y.2.ownBlock <;> simp [hb]
  rw [e]
  exact nodup_fresh h (optList_nodup _) h1 (fun x hx => h2 x (by simpa using hx))

/-- the stack's numbers, and the places -/
def nextsL (fr : List FrD) (n : Nat) : List Int := (fr.map fun f => (f.2.2 : Int)).reverse ++ [(n : Int)]
def placesL (fr : List FrD) : List Int := (fr.map fun f => ((f.2.2 - 1 : Nat) : Int)).reverse
theorem nexts_len (fr : List FrD) (n : Nat) : (nextsL fr n).length = fr.length + 1 := by simp [nextsL]
theorem where_len (fr : List FrD) : (placesL fr).length = fr.length := by simp [placesL]
theorem nexts_last (fr : List FrD) (n : Nat) : (nextsL fr n)[fr.length]? = some (n : Int) := by
  unfold nextsL
  rw [List.getElem?_append_right (by simp)]
  simp
theorem nexts_set (fr : List FrD) (n m : Nat) : (nextsL fr n).set fr.length (m : Int) = nextsL fr m := by
  unfold nextsL
  rw [List.set_append_right _ _ (by simp)]
  simp
theorem nexts_push (fr : List FrD) (b : List (List TaskD)) (x : TaskD) (m : Nat) : nextsL ((b, x, m) :: fr) 0 = nextsL fr m ++ [0] := by simp [nextsL]
theorem where_push (fr : List FrD) (b : List (List TaskD)) (x : TaskD) (a : Nat) : placesL ((b, x, a + 1) :: fr) = placesL fr ++ [(a : Int)] := by simp [placesL]
theorem nexts_pop (fr : List FrD) (b : List (List TaskD)) (x : TaskD) (m n : Nat) : (nextsL ((b, x, m) :: fr) n).take (fr.length + 1) = nextsL fr m := by
  unfold nextsL
  rw [List.take_append_of_le_length (by simp)]
  simp
  rw [List.take_of_length_le (by simp)]
theorem where_pop (fr : List FrD) (b : List (List TaskD)) (x : TaskD) (w : Nat) : (placesL ((b, x, w + 1) :: fr)).take fr.length = placesL fr := by
  rw [where_push, List.take_append_of_le_length (by simp [placesL]), List.take_of_length_le (by simp [placesL])]
theorem where_last (fr : List FrD) (b : List (List TaskD)) (x : TaskD) (w : Nat) : (placesL ((b, x, w + 1) :: fr))[fr.length]? = some (w : Int) := by
  rw [where_push, List.getElem?_append_right (by simp [placesL])]
  simp [placesL]
/-- how much is left, off the stack -/
def rkL : Nat → List Int → Nat
  | _, [] => 0
  | e, x :: xs => (9 - x.toNat) * 10 ^ e + rkL (e - 1) xs
theorem rkL_app : ∀ (e : Nat) (xs : List Int) (y : Int), rkL e (xs ++ [y]) = rkL e xs + (9 - y.toNat) * 10 ^ (e - xs.length)
  | e, [], y => by simp [rkL]
  | e, x :: xs, y => by
    simp only [List.cons_append, rkL, rkL_app (e - 1) xs y, List.length_cons]
    rw [show e - 1 - xs.length = e - (xs.length + 1) by omega]
    omega
theorem rkL_fr (fr : List FrD) : rkL 8 ((fr.map fun f => (f.2.2 : Int)).reverse) = rkF fr := by
  induction fr with
  | nil => rfl
  | cons f fr ih =>
    obtain ⟨b, x, n⟩ := f
    simp only [List.map_cons, List.reverse_cons, rkL_app, ih, rkF]
    simp
theorem rkL_eq (fr : List FrD) (n : Nat) : rkL 8 (nextsL fr n) = rkD fr n := by
  unfold nextsL rkD
  rw [rkL_app, rkL_fr]
  simp
theorem ints_one {e : TypeId} {w : World} {v : Value} {xs ys : List Int} (h : RSl e 1 EI w v xs) (h' : RSl e 1 EI w v ys) : xs = ys := by
  obtain ⟨A, c, rfl, _, _, hx⟩ := h.get_
  obtain ⟨A', c', hv, _, _, hy⟩ := h'.get_
  injection hv with h1 h2 h3
  subst h1 h3
  refine List.ext_getElem? fun j => ?_
  rcases Nat.lt_or_ge j xs.length with hj | hj
  · obtain ⟨b, o, x, cs, hA, e1, _, e2, c1⟩ := hx j hj
    obtain ⟨b', o', y, cs', hA', e3, _, e4, c2⟩ := hy j (by omega)
    rw [hA] at hA'
    injection hA' with hA'
    injection hA' with h4 h5 _
    subst h4 h5
    have r1 := c1 0 (.int .i64 x) (by rw [e2]; rfl)
    have r2 := c2 0 (.int .i64 y) (by rw [e4]; rfl)
    rw [r1] at r2
    injection r2 with r2
    injection r2 with _ r2
    rw [e1, e3, r2]
  · rw [List.getElem?_eq_none hj, List.getElem?_eq_none (by omega)]
open Classical in
noncomputable def rkV (w : World) (v : Value) : Nat := if h : ∃ xs, RSl 54 1 EI w v xs then rkL 8 (Classical.choose h) else 0
theorem rkV_eq {w : World} {base : Nat} {v : Value} {fr : List FrD} {n : Nat} (h : OTr w base v (nextsL fr n)) : rkV w v = rkD fr n := by
  have hx : ∃ xs, RSl 54 1 EI w v xs := ⟨_, Own.read h⟩
  unfold rkV
  rw [dif_pos hx, ints_one (Classical.choose_spec hx) (Own.read h), rkL_eq]
/-- what LeastAll's loop keeps -/
structure LA (w0 w : World) (bv sv hv : Value) (ps : List (List TaskD × Value)) (fr : List FrD) (n : Nat) : Prop where
  bins : OBZ w0 w w0.heap.size bv ps
  nd : (blocksOfB ps).Nodup
  stack : OTr w w0.heap.size sv (nextsL fr n)
  wh : OI w w0.heap.size hv (placesL fr)
  ext : Ext w0 w
theorem LA.ext_ {w0 w w' : World} {bv sv hv : Value} {ps : List (List TaskD × Value)} {fr : List FrD} {n : Nat} (h : LA w0 w bv sv hv ps fr n) (hx : Ext w w') : LA w0 w' bv sv hv ps fr n :=
  ⟨h.bins.ext (EBZ.ok _ _) hx, h.nd, h.stack.ext EI.ok hx, h.wh.ext EI.ok hx, h.ext.trans hx⟩
/-- nodes of a way are small -/
theorem Way.rows {room : List Int} {most : Nat} {all : List TaskD} {bs : List (List TaskD)} (h : Way room most all bs) {b : List TaskD} (hb : b ∈ bs) : b.length ≤ all.length ∧ ∀ t ∈ b, t ∈ all := by
  have hs : b.length ≤ bs.flatten.length := by
    obtain ⟨l1, l2, rfl⟩ := List.append_of_mem hb
    simp
    omega
  exact ⟨by rw [← h.perm.length_eq]; exact hs, fun t ht => h.perm.mem_iff.1 (List.mem_flatten.2 ⟨b, hb, ht⟩)⟩

end Go.Proofs.YtllchacophapoaaDoor

/- What LeastAll's steps do to its memory. -/
namespace Go.Proofs.YtllchacophapoaaDoor
open Go.RowKit
set_option maxRecDepth 4000

section
variable {w0 wr wx w' : World} {bv sv hv : Value} {ps : List (List TaskD × Value)} {fr : List FrD} {n : Nat}
theorem LA.low (h : LA w0 wr bv sv hv ps fr n) : ∀ g, bv.ownBlock = some g → w0.heap.size ≤ g := fun g hg => (Own.lt h.bins g hg).1
/-- the next node to try is written down -/
theorem LA.next {gs N cs : Nat} (h : LA w0 wr bv (.slice (some ⟨gs, 0, none⟩) N cs) hv ps fr n) (m : Nat) : LA w0 (wr.setCell ⟨gs, fr.length, none⟩ (.int .i64 (m : Int))) bv (.slice (some ⟨gs, 0, none⟩) N cs) hv ps fr m := by
  have hset := Own.set EI.ok ETr.ne h.stack (j := fr.length) (i := 0) (u := .int .i64 (m : Int)) (x' := (m : Int)) (nexts_last fr n) (by omega) (fun w' _ cs hl he => by rw [he]; rfl)
  rw [nexts_set] at hset
  have h1 := hset.1
  have h2 := hset.2
  rw [Nat.mul_one, Nat.add_zero] at h1 h2
  exact ⟨OBZ.same_ h.bins (h2.mono (by rintro t (rfl | rfl) <;> decide)), h.nd, h1, Own.same EI.ok h.wh (h2.mono (by rintro t (rfl | ht); decide; exact ht.elim)), Below.setCell h.ext (Own.lt h.stack gs rfl).1 _⟩
/-- the nodes have turned, nothing else has -/
theorem LA.binsTo (h : LA w0 wr bv sv hv ps fr n) {bv' : Value} {ps' : List (List TaskD × Value)} (hb : OBZ w0 w' w0.heap.size bv' ps') (hn : (blocksOfB ps').Nodup) (hs : SameT (fun t => t ≠ 28) wr w') (hx : Ext w0 w') : LA w0 w' bv' sv hv ps' fr n :=
  ⟨hb, hn, Own.same EI.ok h.stack (hs.mono (by rintro t (rfl | ht); decide; exact ht.elim)), Own.same EI.ok h.wh (hs.mono (by rintro t (rfl | ht); decide; exact ht.elim)), hx⟩
/-- one node's row has turned -/
theorem LA.turn_ {g L c k : Nat} {p : List TaskD × Value} (h : LA w0 wr (.slice (some ⟨g, 0, none⟩) L c) sv hv ps fr n) (hk : ps[k]? = some p) (hx : Ext wr wx) (hg : wx.grownBy w' p.2.ownBlock) (hs : SameT (fun t => t ≠ 44) wx w') {v' : Value} {ts : List TaskD} (ht : OZ w0 w' w0.heap.size v' ts) (hv' : v'.ownBlock = p.2.ownBlock ∨ v'.ownBlock = some wx.heap.size) :
    LA w0 (w'.setCell ⟨g, k, none⟩ v') (.slice (some ⟨g, 0, none⟩) L c) sv hv (ps.set k (ts, v')) fr n := by
  have hp := OBZ.mem h.bins hk
  obtain ⟨h1, h2⟩ := OBZ.turn h.bins h.nd hk (w' := w') (fun q hq hne => (hg.block q (Nat.lt_of_lt_of_le hq hx.size) (fun e => hne e.symm)).trans (hx.block q hq)) ht
  refine ⟨h1, nodup_setZ h.nd hk hv' (fun q hq => Nat.lt_of_lt_of_le (OBZ.lt h.bins q hq).2 hx.size), ?_, ?_, Below.setCell (Ext.grown (h.ext.trans hx) hg (fun q hq => ?_)) (Own.lt h.bins g rfl).1 _⟩
  · exact Own.same EI.ok h.stack (((hx.same _).trans (hs.mono (by rintro t (rfl | ht); decide; exact ht.elim))).trans (h2.mono (by rintro t (rfl | ht); decide; exact ht.elim)))
  · exact Own.same EI.ok h.wh (((hx.same _).trans (hs.mono (by rintro t (rfl | ht); decide; exact ht.elim))).trans (h2.mono (by rintro t (rfl | ht); decide; exact ht.elim)))
  · exact ⟨(Own.lt hp q hq).1, Nat.lt_of_lt_of_le (Own.lt hp q hq).2 hx.size⟩
/-- the last place is taken off the stack -/
theorem LA.cut {gs N cs gh M ch : Nat} {b0 : List (List TaskD)} {y : TaskD} {a : Nat} (h : LA w0 wr bv (.slice (some ⟨gs, 0, none⟩) N cs) (.slice (some ⟨gh, 0, none⟩) M ch) ps ((b0, y, a + 1) :: fr) n) :
    LA w0 wr bv (.slice (some ⟨gs, 0, none⟩) (fr.length + 1) cs) (.slice (some ⟨gh, 0, none⟩) fr.length ch) ps fr (a + 1) := by
  have h1 := Own.take_ h.stack (n := fr.length + 1) (by rw [nexts_len]; simp)
  have h2 := Own.take_ h.wh (n := fr.length) (by rw [where_len]; simp)
  rw [nexts_pop] at h1
  rw [where_pop] at h2
  exact ⟨h.bins, h.nd, h1, h2, h.ext⟩
/-- the last nodes are dropped -/
theorem LA.less {g L c m : Nat} (h : LA w0 wr (.slice (some ⟨g, 0, none⟩) L c) sv hv ps fr n) (hm : m ≤ ps.length) : LA w0 wr (.slice (some ⟨g, 0, none⟩) m c) sv hv (ps.take m) fr n :=
  ⟨Own.take_ h.bins hm, nodup_take h.nd m, h.stack, h.wh, h.ext⟩
/-- a place more, a number more -/
theorem LA.push {sv' hv' : Value} {b0 : List (List TaskD)} {y : TaskD} {a : Nat} (h : LA w0 wr bv sv hv ps fr (a + 1)) (hw : OI w' w0.heap.size hv' (placesL fr ++ [(a : Int)])) (hst : OTr w' w0.heap.size sv' (nextsL fr (a + 1) ++ [0])) (hs : SameT (fun t => t ≠ 3 ∧ t ≠ 54) wr w') (hx : Ext w0 w') : LA w0 w' bv sv' hv' ps ((b0, y, a + 1) :: fr) 0 :=
  ⟨OBZ.same_ h.bins (hs.mono (by rintro t (rfl | rfl) <;> exact ⟨by decide, by decide⟩)), h.nd, by rw [nexts_push]; exact hst, by rw [where_push]; exact hw, hx⟩
theorem LA.ints {gs N cs : Nat} (h : LA w0 wr bv (.slice (some ⟨gs, 0, none⟩) N cs) hv ps fr n) : wr.cell? ⟨gs, fr.length, none⟩ = some (.int .i64 (n : Int)) ∧ wr.frozen? ⟨gs, fr.length, none⟩ = false := by
  obtain ⟨cs', _, he, hc⟩ := Own.at_ h.stack (nexts_last fr n)
  have := hc 0 (.int .i64 (n : Int)) (by rw [he]; rfl)
  rw [Nat.mul_one, Nat.add_zero] at this
  exact ⟨this, h.stack.frozen_ _⟩
end
theorem LA.init {w0 w2 : World} (hx : Ext w0 w2) : LA w0 (((w2.alloc (.cells #[] 28)).alloc (.cells #[.int .i64 0] 54)).alloc (.cells #[] 3)) (.slice (some ⟨w2.heap.size, 0, none⟩) 0 0) (.slice (some ⟨w2.heap.size + 1, 0, none⟩) 1 1) (.slice (some ⟨w2.heap.size + 1 + 1, 0, none⟩) 0 0) [] [] 0 := by
  have e1 := Ext.alloc w2 (.cells #[] 28)
  have e2 := Ext.alloc (w2.alloc (.cells #[] 28)) (.cells #[.int .i64 0] 54)
  have e3 := Ext.alloc ((w2.alloc (.cells #[] 28)).alloc (.cells #[.int .i64 0] 54)) (.cells #[] 3)
  have hsz := hx.size
  refine ⟨?_, by simp [blocksOfB], ?_, ?_, hx.trans (e1.trans (e2.trans e3))⟩
  · exact Own.ext (EBZ.ok _ _) (Own.made #[] 0 hsz (by omega) rfl) (e2.trans e3)
  · have := Own.lit (e := 54) (size := 1) (E := EI) (base := w0.heap.size) (w := w2.alloc (.cells #[] 28)) (cells := [.int .i64 0]) (xs := [0]) (by simp; omega) (by simp) (Cells.one rfl rfl)
    have h2 := Own.ext EI.ok this e3
    have e : nextsL [] 0 = [0] := by simp [nextsL]
    rw [e]
    simpa using h2
  · exact Own.madeAt #[] 0 _ (by simp) (by omega) (by omega) rfl
theorem Own.block_far {e t : TypeId} {wx : World} {size base g N c B : Nat} {E : Enc Int} {xs : List Int} {cur : Array Value} (h : Own e size E wx base (.slice (some ⟨g, 0, none⟩) N c) xs) (hb : wx.heap[B]? = some (.cells cur t (0, 0))) (hne : e ≠ t) : B ≠ g := fun he => by
  obtain ⟨cur', h2⟩ := Own.blk h
  rw [← he, hb] at h2
  injection h2 with h2
  injection h2 with _ h2 _
  exact hne h2.symm
theorem cell_farB {w : World} {B g k : Nat} (hne : B ≠ g) (i : Nat) (u : Value) : (w.setCell ⟨g, k, none⟩ u).cell? ⟨B, i, none⟩ = w.cell? ⟨B, i, none⟩ := by
  have h := Below.heap_setCell w ⟨g, k, none⟩ u B hne
  unfold World.cell?
  simp [h]
theorem Own.cap {α : Type} {e : TypeId} {size : Nat} {E : Enc α} {w : World} {base : Nat} {A : Option Addr} {n c : Nat} {xs : List α} (h : Own e size E w base (.slice A n c) xs) : xs.length ≤ c := by
  obtain ⟨A', c', hv, _, h2⟩ := Own.form h
  injection hv with _ _ h3
  rw [h3]; exact h2
theorem map_getD {ps : List (List TaskD × Value)} {bs : List (List TaskD)} (h : ps.map (·.1) = bs) {k : Nat} (hk : k < bs.length) : ∃ v, ps[k]? = some (bs.getD k [], v) := by
  subst h
  have hl : k < ps.length := by simpa using hk
  refine ⟨ps[k].2, ?_⟩
  rw [List.getElem?_eq_getElem hl, List.getD_eq_getElem?_getD, List.getElem?_map, List.getElem?_eq_getElem hl]
  rfl

end Go.Proofs.YtllchacophapoaaDoor
