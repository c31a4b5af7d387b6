/- The reference takes a task out of nodes. -/
import Derived.Test.YtfgibhdglbjadaaCl4
namespace Go.Proofs.Ytfgibhdglbjadaa
open Go.RowKit
set_option maxRecDepth 4000

def takeL (id : Int) (ts : List TaskD) : List TaskD := ts.filter fun t => !(t.id == id)
def lastL (id : Int) (ts : List TaskD) : TaskD := ts.foldl (fun x t => if t.id == id then t else x) ⟨0, []⟩
theorem takeL_snoc (id : Int) (ts : List TaskD) (t : TaskD) : takeL id (ts ++ [t]) = if t.id == id then takeL id ts else takeL id ts ++ [t] := by
  unfold takeL
  rw [List.filter_append]
  cases h : t.id == id <;> simp [h]
theorem lastL_snoc (id : Int) (ts : List TaskD) (t : TaskD) : lastL id (ts ++ [t]) = if t.id == id then t else lastL id ts := by simp [lastL, List.foldl_append]

/-- a node's tasks and their value, a row of the call's own -/
def EBV (base : Nat) : Enc (List TaskD × Value) := fun w cs p => cs = [p.2] ∧ OT w base p.2 p.1
theorem EBV.ok (base : Nat) : (EBV base).Ok (fun t => t = 64 ∨ t = 3) := fun _ _ _ _ ⟨h, hr⟩ ha => ⟨h, hr.same ET.ok ha⟩
theorem EBV.flat (base : Nat) : (EBV base).Flat := fun _ _ _ ⟨h, hr⟩ u hu => by
  obtain ⟨A, c, hv, _⟩ := hr.form
  rw [h] at hu; simp at hu; subst hu
  rw [hv]; rfl
theorem EBV.ne : ∀ t, (fun t => t = 64 ∨ t = 3) t → t ≠ 54 := EB.ne
def blocksOfB (ps : List (List TaskD × Value)) : List Nat := ps.filterMap fun p => p.2.ownBlock
abbrev OBV (w : World) (base : Nat) (v : Value) (ps : List (List TaskD × Value)) : Prop := Own 54 1 (EBV base) w base v ps
theorem OBV.lt {w : World} {base : Nat} {v : Value} {ps : List (List TaskD × Value)} (h : OBV w base v ps) : ∀ g ∈ blocksOfB ps, base ≤ g ∧ g < w.heap.size := by
  intro g hg
  obtain ⟨p, hp, hb⟩ := List.mem_filterMap.1 hg
  obtain ⟨cells, _, hc⟩ := h
  obtain ⟨k, hk⟩ := List.getElem?_of_mem hp
  obtain ⟨cs, _, he, _⟩ := hc.2 k p hk
  exact he.2.lt g hb
theorem OBV.far {w w' : World} {base : Nat} {v : Value} {ps : List (List TaskD × Value)} (h : OBV w base v ps) (hb : ∀ k, v.ownBlock = some k → w'.heap[k]? = w.heap[k]?) (hg : ∀ g ∈ blocksOfB ps, w'.heap[g]? = w.heap[g]?) (hs : SameT (fun t => t = 3) w w') : OBV w' base v ps :=
  Own.far h hb (fun cs p hp ⟨he, ht⟩ => ⟨he, OT.far ht (fun k hk => hg k (List.mem_filterMap.2 ⟨p, hp, hk⟩)) hs⟩)
theorem OBV.read {w : World} {base : Nat} {v : Value} {ps : List (List TaskD × Value)} (h : OBV w base v ps) : RB w v (ps.map (·.1)) :=
  (Own.read h).map fun cs p ⟨h1, h2⟩ => ⟨p.2, h1, h2.read⟩

/-- what the walk over nodes keeps -/
structure TS (id : Int) (w wr : World) (v : Value) (ps : List (List TaskD × Value)) (bl : List (List TaskD)) (x : TaskD) (An : Option Addr) (cn : Nat) : Prop where
  own : OBV wr (w.heap.size + 1) v ps
  map : ps.map (·.1) = bl.map (takeL id)
  nd : (blocksOfB ps).Nodup
  hi : ∀ g ∈ blocksOfB ps, w.heap.size + 2 < g
  row : ∀ g, v.ownBlock = some g → g ≠ w.heap.size + 2
  box : wr.heap[w.heap.size + 2]? = some (.cells #[.int .i64 x.id, .slice An x.need.length cn] 64 (0, 0))
  rd : RI wr (.slice An x.need.length cn) x.need
  zero : wr.heap[w.heap.size]? = some (.cells #[.int .i64 0, .slice none 0 0] 64 (0, 0))
  ext : Ext w wr
/-- the row of the node under way -/
structure TB (id : Int) (w wr : World) (v9 : Value) (ts : List TaskD) (ps : List (List TaskD × Value)) : Prop where
  own : OT wr (w.heap.size + 1) v9 (takeL id ts)
  hi : ∀ g, v9.ownBlock = some g → w.heap.size + 2 < g ∧ g ∉ blocksOfB ps

theorem TS.size {id : Int} {w wr : World} {v : Value} {ps : List (List TaskD × Value)} {bl : List (List TaskD)} {x : TaskD} {An : Option Addr} {cn : Nat} (h : TS id w wr v ps bl x An cn) : w.heap.size + 2 < wr.heap.size := obj_lt h.box
theorem TS.ext_ {id : Int} {w wr w' : World} {v : Value} {ps : List (List TaskD × Value)} {bl : List (List TaskD)} {x : TaskD} {An : Option Addr} {cn : Nat} (h : TS id w wr v ps bl x An cn) (ha : Ext wr w') : TS id w w' v ps bl x An cn :=
  ⟨h.own.ext (EBV.ok _) ha, h.map, h.nd, h.hi, h.row, ha.obj h.box, h.rd.ext ha, ha.obj h.zero, h.ext.trans ha⟩
theorem TB.ext_ {id : Int} {w wr w' : World} {v9 : Value} {ts : List TaskD} {ps : List (List TaskD × Value)} (h : TB id w wr v9 ts ps) (ha : Ext wr w') : TB id w w' v9 ts ps := ⟨h.own.ext ET.ok ha, h.hi⟩
/-- the variable takes a task -/
theorem TS.store {id : Int} {w wr : World} {v : Value} {ps : List (List TaskD × Value)} {bl : List (List TaskD)} {x y : TaskD} {An Am : Option Addr} {cn cm : Nat} (h : TS id w wr v ps bl x An cn) (hy : RI wr (.slice Am y.need.length cm) y.need) :
    TS id w ((wr.setCell ⟨w.heap.size + 2, 0, none⟩ (.int .i64 y.id)).setCell ⟨w.heap.size + 2, 1, none⟩ (.slice Am y.need.length cm)) v ps bl y Am cm := by
  have hb : ∀ k, k ≠ w.heap.size + 2 → ((wr.setCell ⟨w.heap.size + 2, 0, none⟩ (.int .i64 y.id)).setCell ⟨w.heap.size + 2, 1, none⟩ (.slice Am y.need.length cm)).heap[k]? = wr.heap[k]? := fun k hk => (Below.heap_setCell _ _ _ _ hk).trans (Below.heap_setCell _ _ _ _ hk)
  have hs : SameT (fun t => t = 3) wr ((wr.setCell ⟨w.heap.size + 2, 0, none⟩ (.int .i64 y.id)).setCell ⟨w.heap.size + 2, 1, none⟩ (.slice Am y.need.length cm)) :=
    (SameT.setCell (p := ⟨w.heap.size + 2, 0, none⟩) h.box _ (by rintro t rfl; decide)).trans (SameT.setCell (p := ⟨w.heap.size + 2, 1, none⟩) (obj_set h.box 0 _) _ (by rintro t rfl; decide))
  exact ⟨OBV.far h.own (fun k hk => hb k (h.row k hk)) (fun g hg => hb g (by have := h.hi g hg; omega)) hs, h.map, h.nd, h.hi, h.row, obj_set2 h.box _ _, RI.same hy hs, (hb _ (by omega)).trans h.zero, Below.setCell (Below.setCell h.ext (by show w.heap.size ≤ w.heap.size + 2; omega) _) (by show w.heap.size ≤ w.heap.size + 2; omega) _⟩
theorem TB.store {id : Int} {w wr : World} {v : Value} {ps : List (List TaskD × Value)} {bl : List (List TaskD)} {x y : TaskD} {An Am : Option Addr} {cn cm : Nat} (h : TS id w wr v ps bl x An cn) {v9 : Value} {ts : List TaskD} (hb : TB id w wr v9 ts ps) :
    TB id w ((wr.setCell ⟨w.heap.size + 2, 0, none⟩ (.int .i64 y.id)).setCell ⟨w.heap.size + 2, 1, none⟩ (.slice Am y.need.length cm)) v9 ts ps :=
  ⟨OT.far hb.own (fun k hk => have hne : k ≠ w.heap.size + 2 := by have := (hb.hi k hk).1; omega
    (Below.heap_setCell _ _ _ _ hne).trans (Below.heap_setCell _ _ _ _ hne))
    ((SameT.setCell (p := ⟨w.heap.size + 2, 0, none⟩) h.box _ (by rintro t rfl; decide)).trans (SameT.setCell (p := ⟨w.heap.size + 2, 1, none⟩) (obj_set h.box 0 _) _ (by rintro t rfl; decide))), hb.hi⟩
/-- the node's row grows -/
theorem TS.grown {id : Int} {w wr w2 : World} {v : Value} {ps : List (List TaskD × Value)} {bl : List (List TaskD)} {x : TaskD} {An : Option Addr} {cn : Nat} (h : TS id w wr v ps bl x An cn) {v9 : Value} {ts : List TaskD} (hb : TB id w wr v9 ts ps) (hg : wr.grownBy w2 v9.ownBlock) (hs : SameT (fun t => t ≠ 64) wr w2) : TS id w w2 v ps bl x An cn := by
  have hk : ∀ k, k < wr.heap.size → v9.ownBlock ≠ some k → w2.heap[k]? = wr.heap[k]? := fun k hk hne => hg.block k hk (fun he => hne he.symm)
  have hz := h.size
  refine ⟨OBV.far h.own (fun k hk' => ?_) (fun g hg' => hk g (OBV.lt h.own g hg').2 (fun he => (hb.hi g he).2 hg')) (hs.mono (by rintro t rfl; decide)), h.map, h.nd, h.hi, h.row, (hk _ hz (fun he => by have := (hb.hi _ he).1; omega)).trans h.box, RI.same h.rd (hs.mono (by rintro t rfl; decide)), (hk _ (by omega) (fun he => by have := (hb.hi _ he).1; omega)).trans h.zero, ?_⟩
  · obtain ⟨cells, ho, _⟩ := h.own
    rcases ho.2 with ⟨h1, _⟩ | ⟨g, cap, cur, hv, _, hh, _⟩
    · rw [h1] at hk'; simp [Value.ownBlock] at hk'
    · have hgk : g = k := by rw [hv] at hk'; simpa [Value.ownBlock] using hk'
      subst hgk
      rw [hs g cur _ _ (by decide) hh, hh]
  · exact Below.grown h.ext hg h.ext.size (fun k hk' => by have := (hb.hi k hk').1; omega)
end Go.Proofs.Ytfgibhdglbjadaa
