/- The reference opens and closes a node. -/
import Derived.Test.YtkdkmihgnplooaaGreatK6
import Derived.Test.YtkdkmihgnplooaaGreatK3
import Derived.Test.YtkdkmihgnplooaaGreatK2
import Derived.Test.YtkdkmihgnplooaaGreatK1
namespace Go.Proofs.YtkdkmihgnplooaaGreat
open Go.RowKit
set_option maxRecDepth 4000

/-- a node is opened or closed; the code -/
def openC (C : ClusD) (node : Int) (op : Bool) : ClusD × Int :=
  if clusOk C then
    if inB node 0 ((C.units.length : Int) - 1) then
      match C.units[node.toNat]? with
      | none => (C, 4)
      | some u => if u.opened == op then (C, 2) else if 0 < u.tasks.length then (C, 5) else (⟨C.room, C.units.set node.toNat ⟨op, u.tasks⟩⟩, 0)
    else (C, 4)
  else (⟨[], []⟩, 1)

theorem open_at {C : ClusD} {k : Nat} {op : Bool} {x : UnitD} (h1 : clusOk C = true) (h2 : inB (k : Int) 0 ((C.units.length : Int) - 1) = true) (hk : C.units[k]? = some x) :
    openC C k op = if x.opened == op then (C, 2) else if 0 < x.tasks.length then (C, 5) else (⟨C.room, C.units.set k ⟨op, x.tasks⟩⟩, 0) := by
  unfold openC
  rw [if_pos h1, if_pos h2, Int.toNat_natCast, hk]
theorem OCl.zero (w : World) (base : Nat) : OCl w base (.agg #[.slice none 0 0, .slice none 0 0]) ⟨[], []⟩ := ⟨_, _, [], rfl, RSl.nil_ _ _ _ _ _ _ (by omega), Own.none_ _ _ _ _ _, rfl, List.nodup_nil⟩
theorem notClu : ∀ t, (t = 66 ∨ t = 36 ∨ t = 3) → t ≠ 32 := by rintro t (rfl | rfl | rfl) <;> decide
theorem OUV.low {w : World} {base base' : Nat} {v : Value} {ps : List (UnitD × Value)} (h : OUV w base v ps) (hb : base' ≤ base) : OUV w base' v ps := by
  obtain ⟨cells, ho, hc⟩ := h
  exact ⟨cells, ownsRow_low ho hb, hc.1, fun j x hx => let ⟨cs, hl, ⟨he, ht⟩, hu⟩ := hc.2 j x hx; ⟨cs, hl, ⟨he, Own.low ht hb⟩, hu⟩⟩
theorem clus_small {C : ClusD} (h : clusOk C = true) : C.room.length ≤ 4000000 ∧ ∀ u ∈ C.units, u.tasks.length ≤ 4000000 ∧ ∀ t ∈ u.tasks, t.need.length ≤ 4000000 := by
  refine ⟨by have := vecOk_len (roomOk_vec (clusOk_room h)); omega, fun u hu => ?_⟩
  have hg := (clusOk_unit h hu).1
  exact ⟨by have := hg.1; omega, fun t ht => by have := (hg.2 t ht).1; omega⟩
theorem blocksOf_set {ps : List (UnitD × Value)} {k : Nat} {u u' : UnitD} {v : Value} (h : ps[k]? = some (u, v)) : blocksOf (ps.set k (u', v)) = blocksOf ps := by
  have e : ∀ qs : List (UnitD × Value), blocksOf qs = (qs.map (·.2)).filterMap Value.ownBlock := fun qs => by unfold blocksOf; rw [List.filterMap_map]; rfl
  rw [e, e, List.map_set]
  congr 1
  exact set_same (x := v) (by rw [List.getElem?_map, h]; rfl)
theorem at_fst {ps : List (UnitD × Value)} {us : List UnitD} (h : ps.map (·.1) = us) {k : Nat} {x : UnitD} (hx : us[k]? = some x) : ∃ v, ps[k]? = some (x, v) := by
  rw [← h, List.getElem?_map] at hx
  obtain ⟨⟨y, v⟩, hy, rfl⟩ := Option.map_eq_some_iff.1 hx
  exact ⟨v, hy⟩
theorem OUV.at_ {w : World} {base g n c : Nat} {ps : List (UnitD × Value)} (h : OUV w base (.slice (some ⟨g, 0, none⟩) n c) ps) {j : Nat} {x : UnitD} {v : Value} (hj : ps[j]? = some (x, v)) :
    w.cell? ⟨g, j * 2, none⟩ = some (.bool x.opened) ∧ w.frozen? ⟨g, j * 2, none⟩ = false := by
  obtain ⟨A, c', hv, _, _, hg⟩ := RU.get (OUV.read h)
  have hlt : j < (ps.map (·.1)).length := by rw [List.length_map]; exact (List.getElem?_eq_some_iff.1 hj).1
  obtain ⟨b, o, y, An, cn, hA, he, c1, c2, _⟩ := hg j hlt
  injection hv with h1 h2 h3
  subst hA
  injection h1 with h1
  injection h1 with h1 h4 _
  subst h1 h4
  have : y = x := by have := he.out; rw [List.getElem?_map, hj] at this; injection this with this; exact this.symm
  subst this
  refine ⟨by simpa using c1, ?_⟩
  obtain ⟨cells, ho, _⟩ := h
  rcases ho.2 with ⟨h1, _⟩ | ⟨g', cap, cur, h1, _, hg, _⟩
  · cases h1
  · injection h1 with h1 _ _
    injection h1 with h1
    injection h1 with h1 _ _
    subst h1
    exact obj_frozen hg _
theorem OUV.set0 {w : World} {base g n c : Nat} {ps : List (UnitD × Value)} (h : OUV w base (.slice (some ⟨g, 0, none⟩) n c) ps) {j : Nat} {x : UnitD} {v : Value} (hj : ps[j]? = some (x, v)) (op : Bool) :
    OUV (w.setCell ⟨g, j * 2, none⟩ (.bool op)) base (.slice (some ⟨g, 0, none⟩) n c) (ps.set j (⟨op, x.tasks⟩, v)) ∧ SameT (fun t => t ≠ 66) w (w.setCell ⟨g, j * 2, none⟩ (.bool op)) :=
  Own.set (EUV.ok base) EUV.ne h hj (i := 0) (u := .bool op) (x' := (⟨op, x.tasks⟩, v)) (by omega) (fun w' hw cs hl ⟨he, ht⟩ => ⟨by rw [he]; rfl, ht.same ET.ok (hw.mono (fun t ht => ht))⟩)
/-- what a function leaves that answers with a cluster of its own and a code -/
def RetOC (w : World) (r : ClusD × Int) (e : Ending) (w' : World) : Prop := ∃ cv, e = .returned (.tuple #[cv, .int .i64 r.2]) ∧ OCl w' w.heap.size cv r.1 ∧ Ext w w'

end Go.Proofs.YtkdkmihgnplooaaGreat

/- The reference's place for a task. -/
namespace Go.Proofs.YtkdkmihgnplooaaGreat
open Go.RowKit
set_option maxRecDepth 4000

def canC (C : ClusD) (x : TaskD) (op : Bool) (u : UnitD) : Bool := u.opened == op && l11fits C.room u.tasks x
/-- the first node that is open, or closed, and has room -/
def atC (C : ClusD) (x : TaskD) (op : Bool) : Int := idxI (canC C x op) C.units

set_option maxHeartbeats 2000000 in
theorem sAt21 (cv xv : Value) (C : ClusD) (x : TaskD) (op : Bool) (w : World) (h : ClusV w cv C) (hx : TaskV w xv x) (hC : clusOk C = true) (hn : x.need.length = 3 ∧ Bd 1000 x.need) :
    Calls Tryz.prog 41 #[cv, xv, .bool op] w (RetN w (atC C x op)) := by
  obtain ⟨rv, uv, rfl, hr, hu⟩ := h
  have hr0 := hr
  obtain ⟨Ar, cr, rfl, _⟩ := hr
  obtain ⟨A, c, rfl, hc, hc', hg⟩ := RU.get hu
  have hx0 := hx
  obtain ⟨nv, rfl, hnv⟩ := hx
  obtain ⟨An, cn, rfl, _⟩ := hnv
  obtain ⟨W, hW⟩ : ∃ W, W = (w.alloc (.cells #[.slice Ar C.room.length cr, .slice A C.units.length c] 32)).alloc (.cells #[.int .i64 x.id, .slice An x.need.length cn] 36) := ⟨_, rfl⟩
  have hEW : Ext w W := by rw [hW]; exact (Ext.alloc _ _).trans (Ext.alloc _ _)
  have g1 : W.heap[w.heap.size]? = some (.cells #[.slice Ar C.room.length cr, .slice A C.units.length c] 32 (0, 0)) := by rw [hW]; exact (Ext.alloc _ _).obj (heap_alloc_new w _)
  have g2 : W.heap[w.heap.size + 1]? = some (.cells #[.int .i64 x.id, .slice An x.need.length cn] 36 (0, 0)) := by rw [hW]; exact heap_new (by simp)
  have KC : Hid (∀ w', Ext W w' → w'.cell? ⟨w.heap.size, 0, none⟩ = some (.slice Ar C.room.length cr) ∧ w'.cell? ⟨w.heap.size, 1, none⟩ = some (.slice A C.units.length c) ∧ w'.cell? ⟨w.heap.size + 1, 0, none⟩ = some (.int .i64 x.id) ∧ w'.cell? ⟨w.heap.size + 1, 1, none⟩ = some (.slice An x.need.length cn)) :=
    hid fun w' hw => ⟨obj_cell (hw.obj g1) (i := 0) rfl, obj_cell (hw.obj g1) (i := 1) rfl, obj_cell (hw.obj g2) (i := 0) rfl, obj_cell (hw.obj g2) (i := 1) rfl⟩
  have HX := hid (hx0.ext hEW)
  have HR := hid (hr0.ext hEW)
  have HEW := hid hEW
  have HC := hid hC
  have HN := hid hn
  clear hr0 hx0 hu g1 g2 hEW hC hn
  go_enter Tryz.func41, Tryz.ntmps41
  go_wp2
  rw [← hW]
  clear hW
  go_loopw [7] (fun i wr => ∃ k : Nat, k ≤ C.units.length ∧ i = .int .i64 k ∧ Hid (∀ (j : Nat) y, j < k → C.units[j]? = some y → canC C x op y = false) ∧ Ext W wr) (fun i _ => C.units.length - (intOf i).toNat)
  case atStart => exact ⟨0, Nat.zero_le _, rfl, fun j y hj => absurd hj (by omega), Ext.refl _⟩
  case round =>
    obtain ⟨k, hk, rfl, H, hE⟩ := hrel
    obtain ⟨a0, a1, a2, a3⟩ := KC.out _ hE
    by_cases hlt : k < C.units.length
    · obtain ⟨b, o, u, Au, cu, rfl, e, c1, c2, hu⟩ := hg k hlt
      have i1 : (k : Int) < (C.units.length : Int) := by omega
      have i0 : (0 : Int) ≤ (k : Int) := by omega
      have c1r := (HEW.out.trans hE).cell c1
      have c2r := (HEW.out.trans hE).cell c2
      by_cases h3 : (u.opened == op) = true
      · have HU := hid (RT.ext hu (HEW.out.trans hE))
        have hgu := hid (clusOk_unit HC.out (List.mem_of_getElem? e.out)).1
        have KH : Hid (∀ w', Ext wr w' → w'.cell? ⟨w.heap.size, 0, none⟩ = some (.slice Ar C.room.length cr) ∧ w'.cell? ⟨w.heap.size, 1, none⟩ = some (.slice (some ⟨b, o, none⟩) C.units.length c) ∧ w'.cell? ⟨w.heap.size + 1, 0, none⟩ = some (.int .i64 x.id) ∧ w'.cell? ⟨w.heap.size + 1, 1, none⟩ = some (.slice An x.need.length cn) ∧ w'.cell? ⟨b, o + k * 2, none⟩ = some (.bool u.opened) ∧ w'.cell? ⟨b, o + k * 2 + 1, none⟩ = some (.slice Au u.tasks.length cu) ∧ Ext wr w') :=
          hid fun w' hw => ⟨hw.cell a0, hw.cell a1, hw.cell a2, hw.cell a3, hw.cell c1r, hw.cell c2r, hw⟩
        clear c1 c2 hu
        go_wp2
        go_region_held3 (fun w' => w'.cell? ⟨w.heap.size, 0, none⟩ = some (.slice Ar C.room.length cr) ∧ w'.cell? ⟨w.heap.size, 1, none⟩ = some (.slice (some ⟨b, o, none⟩) C.units.length c) ∧ w'.cell? ⟨w.heap.size + 1, 0, none⟩ = some (.int .i64 x.id) ∧ w'.cell? ⟨w.heap.size + 1, 1, none⟩ = some (.slice An x.need.length cn) ∧ w'.cell? ⟨b, o + k * 2, none⟩ = some (.bool u.opened) ∧ w'.cell? ⟨b, o + k * 2 + 1, none⟩ = some (.slice Au u.tasks.length cu) ∧ Ext wr w')
          (first | exact KH.out _ (by assumption) | exact KH.out _ (Below.drew (Below.refl _ _)))
          ((go_at_call 61; refine (sL11Fits _ _ _ C.room u.tasks x _ (HR.out.ext (hE.trans (Below.drew (Below.refl _ _)))) (RT.ext HU.out (Below.drew (Below.refl _ _))) (HX.out.ext (hE.trans (Below.drew (Below.refl _ _)))) (vecOk_len (roomOk_vec (clusOk_room HC.out))) hgu.out HN.out).mono ?_; rintro e2 w2 ⟨rfl, hE2⟩; have h02 : Ext wr w2 := Ext.trans (Below.drew (Below.refl _ _)) hE2))
        by_cases h4 : l11fits C.room u.tasks x = true
        · have hcan : canC C x op u = true := by unfold canC; rw [h3, h4]; rfl
          rw [h4]
          go_wp2
          go_ret
          exact ⟨ret_i (idxI_hit e.out hcan H.out).symm, HEW.out.trans (hE.trans h02)⟩
        · have h4 : l11fits C.room u.tasks x = false := by simpa using h4
          have hcan : canC C x op u = false := by unfold canC; rw [h4, Bool.and_false]
          rw [h4]
          go_wp2
          go_roundw
          case rel => exact ⟨k + 1, by omega, by go_num, idx_more e.out hcan H.out, hE.trans h02⟩
          case measure => simp [intOf]; omega
      · have h3 : (u.opened == op) = false := by simpa using h3
        have hcan : canC C x op u = false := by unfold canC; rw [h3, Bool.false_and]
        clear c1 c2 hu
        go_wp2
        go_quiet (fail)
        go_wp2
        go_roundw
        case rel => exact ⟨k + 1, by omega, by go_num, idx_more e.out hcan H.out, hE.trans (Ext.drewN _ _)⟩
        case measure => simp [intOf]; omega
    · go_wp2
      go_ret
      have hk' : k = C.units.length := by omega
      subst hk'
      exact ⟨ret_i (idxI_miss fun j y hj => H.out j y (List.getElem?_eq_some_iff.1 hj).1 hj).symm, HEW.out.trans hE⟩

end Go.Proofs.YtkdkmihgnplooaaGreat

/- Rows of the call's own while another block is written. -/
namespace Go.Proofs.YtkdkmihgnplooaaGreat
open Go.RowKit
set_option maxRecDepth 4000

theorem Own.far {α : Type} {e : TypeId} {size : Nat} {E : Enc α} {w w' : World} {base : Nat} {v : Value} {xs : List α} (h : Own e size E w base v xs) (hb : ∀ k, v.ownBlock = some k → w'.heap[k]? = w.heap[k]?) (hE : ∀ cs x, x ∈ xs → E w cs x → E w' cs x) : Own e size E w' base v xs := by
  obtain ⟨cells, ho, hc⟩ := h
  refine ⟨cells, ⟨ho.1, ?_⟩, hc.1, fun j x hx => ?_⟩
  · rcases ho.2 with h0 | ⟨g, cap, cur, hv, hg, hh, r⟩
    · exact .inl h0
    · exact .inr ⟨g, cap, cur, hv, hg, (hb g (by rw [hv]; rfl)).trans hh, r⟩
  · obtain ⟨cs, hl, he, hu⟩ := hc.2 j x hx
    exact ⟨cs, hl, hE cs x (List.mem_of_getElem? hx) he, hu⟩
theorem OT.far {w w' : World} {base : Nat} {v : Value} {ts : List TaskD} (h : OT w base v ts) (hb : ∀ k, v.ownBlock = some k → w'.heap[k]? = w.heap[k]?) (hs : SameT (fun t => t = 3) w w') : OT w' base v ts :=
  Own.far h hb (fun cs x _ he => ET.ok w w' cs x he (hs.mono (fun _ ht => ht)))
/-- the units' row as it was, each list of tasks in a block that is as it was -/
theorem OUV.far {w w' : World} {base : Nat} {v : Value} {ps : List (UnitD × Value)} (h : OUV w base v ps) (hb : ∀ k, v.ownBlock = some k → w'.heap[k]? = w.heap[k]?) (hg : ∀ g ∈ blocksOf ps, w'.heap[g]? = w.heap[g]?) (hs : SameT (fun t => t = 3) w w') : OUV w' base v ps :=
  Own.far h hb (fun _ p hp ⟨he, ht⟩ => ⟨he, OT.far ht (fun k hk => hg k (List.mem_filterMap.2 ⟨p, hp, hk⟩)) hs⟩)
end Go.Proofs.YtkdkmihgnplooaaGreat

/- The reference takes a task out of nodes. -/
namespace Go.Proofs.YtkdkmihgnplooaaGreat
open Go.RowKit
set_option maxRecDepth 4000

/-- a node's tasks and their value, a row of the call's own -/
def EBV (base : Nat) : Enc (List TaskD × Value) := fun w cs p => cs = [p.2] ∧ OT w base p.2 p.1
theorem EBV.ok (base : Nat) : (EBV base).Ok (fun t => t = 36 ∨ t = 3) := fun _ _ _ _ ⟨h, hr⟩ ha => ⟨h, hr.same ET.ok ha⟩
theorem EBV.flat (base : Nat) : (EBV base).Flat := fun _ _ _ ⟨h, hr⟩ u hu => by
  obtain ⟨A, c, hv, _⟩ := hr.form
  rw [h] at hu; simp at hu; subst hu
  rw [hv]; rfl
theorem EBV.ne : ∀ t, (fun t => t = 36 ∨ t = 3) t → t ≠ 48 := EB.ne
def blocksOfB (ps : List (List TaskD × Value)) : List Nat := ps.filterMap fun p => p.2.ownBlock
abbrev OBV (w : World) (base : Nat) (v : Value) (ps : List (List TaskD × Value)) : Prop := Own 48 1 (EBV base) w base v ps
theorem OBV.lt {w : World} {base : Nat} {v : Value} {ps : List (List TaskD × Value)} (h : OBV w base v ps) : ∀ g ∈ blocksOfB ps, base ≤ g ∧ g < w.heap.size := by
  intro g hg
  obtain ⟨p, hp, hb⟩ := List.mem_filterMap.1 hg
  obtain ⟨cells, _, hc⟩ := h
  obtain ⟨k, hk⟩ := List.getElem?_of_mem hp
  obtain ⟨cs, _, he, _⟩ := hc.2 k p hk
  exact he.2.lt g hb
theorem OBV.far {w w' : World} {base : Nat} {v : Value} {ps : List (List TaskD × Value)} (h : OBV w base v ps) (hb : ∀ k, v.ownBlock = some k → w'.heap[k]? = w.heap[k]?) (hg : ∀ g ∈ blocksOfB ps, w'.heap[g]? = w.heap[g]?) (hs : SameT (fun t => t = 3) w w') : OBV w' base v ps :=
  Own.far h hb (fun _ p hp ⟨he, ht⟩ => ⟨he, OT.far ht (fun k hk => hg k (List.mem_filterMap.2 ⟨p, hp, hk⟩)) hs⟩)
theorem OBV.read {w : World} {base : Nat} {v : Value} {ps : List (List TaskD × Value)} (h : OBV w base v ps) : RB w v (ps.map (·.1)) :=
  (Own.read h).map fun _ p ⟨h1, h2⟩ => ⟨p.2, h1, h2.read⟩

/-- what the walk over nodes keeps -/
structure TS (id : Int) (w wr : World) (v : Value) (ps : List (List TaskD × Value)) (bl : List (List TaskD)) (x : TaskD) (An : Option Addr) (cn : Nat) : Prop where
  own : OBV wr (w.heap.size + 1) v ps
  map : ps.map (·.1) = bl.map (takeL id)
  nd : (blocksOfB ps).Nodup
  hi : ∀ g ∈ blocksOfB ps, w.heap.size + 2 < g
  row : ∀ g, v.ownBlock = some g → g ≠ w.heap.size + 2
  box : wr.heap[w.heap.size + 2]? = some (.cells #[.int .i64 x.id, .slice An x.need.length cn] 36 (0, 0))
  rd : RI wr (.slice An x.need.length cn) x.need
  zero : wr.heap[w.heap.size]? = some (.cells #[.int .i64 0, .slice none 0 0] 36 (0, 0))
  ext : Ext w wr
/-- the row of the node under way -/
structure TB (id : Int) (w wr : World) (v9 : Value) (ts : List TaskD) (ps : List (List TaskD × Value)) : Prop where
  own : OT wr (w.heap.size + 1) v9 (takeL id ts)
  hi : ∀ g, v9.ownBlock = some g → w.heap.size + 2 < g ∧ g ∉ blocksOfB ps

theorem TS.size {id : Int} {w wr : World} {v : Value} {ps : List (List TaskD × Value)} {bl : List (List TaskD)} {x : TaskD} {An : Option Addr} {cn : Nat} (h : TS id w wr v ps bl x An cn) : w.heap.size + 2 < wr.heap.size := obj_lt h.box
theorem TS.ext_ {id : Int} {w wr w' : World} {v : Value} {ps : List (List TaskD × Value)} {bl : List (List TaskD)} {x : TaskD} {An : Option Addr} {cn : Nat} (h : TS id w wr v ps bl x An cn) (ha : Ext wr w') : TS id w w' v ps bl x An cn :=
  ⟨h.own.ext (EBV.ok _) ha, h.map, h.nd, h.hi, h.row, ha.obj h.box, h.rd.ext ha, ha.obj h.zero, h.ext.trans ha⟩
theorem TB.ext_ {id : Int} {w wr w' : World} {v9 : Value} {ts : List TaskD} {ps : List (List TaskD × Value)} (h : TB id w wr v9 ts ps) (ha : Ext wr w') : TB id w w' v9 ts ps := ⟨h.own.ext ET.ok ha, h.hi⟩
/-- the variable takes a task -/
theorem TS.store {id : Int} {w wr : World} {v : Value} {ps : List (List TaskD × Value)} {bl : List (List TaskD)} {x y : TaskD} {An Am : Option Addr} {cn cm : Nat} (h : TS id w wr v ps bl x An cn) (hy : RI wr (.slice Am y.need.length cm) y.need) :
    TS id w ((wr.setCell ⟨w.heap.size + 2, 0, none⟩ (.int .i64 y.id)).setCell ⟨w.heap.size + 2, 1, none⟩ (.slice Am y.need.length cm)) v ps bl y Am cm := by
  have hb : ∀ k, k ≠ w.heap.size + 2 → ((wr.setCell ⟨w.heap.size + 2, 0, none⟩ (.int .i64 y.id)).setCell ⟨w.heap.size + 2, 1, none⟩ (.slice Am y.need.length cm)).heap[k]? = wr.heap[k]? := fun k hk => (Below.heap_setCell _ _ _ _ hk).trans (Below.heap_setCell _ _ _ _ hk)
  have hs : SameT (fun t => t = 3) wr ((wr.setCell ⟨w.heap.size + 2, 0, none⟩ (.int .i64 y.id)).setCell ⟨w.heap.size + 2, 1, none⟩ (.slice Am y.need.length cm)) :=
    (SameT.setCell (p := ⟨w.heap.size + 2, 0, none⟩) h.box _ (by rintro t rfl; decide)).trans (SameT.setCell (p := ⟨w.heap.size + 2, 1, none⟩) (obj_set h.box 0 _) _ (by rintro t rfl; decide))
  exact ⟨OBV.far h.own (fun k hk => hb k (h.row k hk)) (fun g hg => hb g (by have := h.hi g hg; omega)) hs, h.map, h.nd, h.hi, h.row, obj_set2 h.box _ _, RI.same hy hs, (hb _ (by omega)).trans h.zero, Below.setCell (Below.setCell h.ext (by show w.heap.size ≤ w.heap.size + 2; omega) _) (by show w.heap.size ≤ w.heap.size + 2; omega) _⟩
theorem TB.store {id : Int} {w wr : World} {v : Value} {ps : List (List TaskD × Value)} {bl : List (List TaskD)} {x y : TaskD} {An Am : Option Addr} {cn cm : Nat} (h : TS id w wr v ps bl x An cn) {v9 : Value} {ts : List TaskD} (hb : TB id w wr v9 ts ps) :
    TB id w ((wr.setCell ⟨w.heap.size + 2, 0, none⟩ (.int .i64 y.id)).setCell ⟨w.heap.size + 2, 1, none⟩ (.slice Am y.need.length cm)) v9 ts ps :=
  ⟨OT.far hb.own (fun k hk => have hne : k ≠ w.heap.size + 2 := by have := (hb.hi k hk).1; omega
    (Below.heap_setCell _ _ _ _ hne).trans (Below.heap_setCell _ _ _ _ hne))
    ((SameT.setCell (p := ⟨w.heap.size + 2, 0, none⟩) h.box _ (by rintro t rfl; decide)).trans (SameT.setCell (p := ⟨w.heap.size + 2, 1, none⟩) (obj_set h.box 0 _) _ (by rintro t rfl; decide))), hb.hi⟩
/-- the node's row grows -/
theorem TS.grown {id : Int} {w wr w2 : World} {v : Value} {ps : List (List TaskD × Value)} {bl : List (List TaskD)} {x : TaskD} {An : Option Addr} {cn : Nat} (h : TS id w wr v ps bl x An cn) {v9 : Value} {ts : List TaskD} (hb : TB id w wr v9 ts ps) (hg : wr.grownBy w2 v9.ownBlock) (hs : SameT (fun t => t ≠ 36) wr w2) : TS id w w2 v ps bl x An cn := by
  have hk : ∀ k, k < wr.heap.size → v9.ownBlock ≠ some k → w2.heap[k]? = wr.heap[k]? := fun k hk hne => hg.block k hk (fun he => hne he.symm)
  have hz := h.size
  refine ⟨OBV.far h.own (fun k hk' => ?_) (fun g hg' => hk g (OBV.lt h.own g hg').2 (fun he => (hb.hi g he).2 hg')) (hs.mono (by rintro t rfl; decide)), h.map, h.nd, h.hi, h.row, (hk _ hz (fun he => by have := (hb.hi _ he).1; omega)).trans h.box, RI.same h.rd (hs.mono (by rintro t rfl; decide)), (hk _ (by omega) (fun he => by have := (hb.hi _ he).1; omega)).trans h.zero, ?_⟩
  · obtain ⟨cells, ho, _⟩ := h.own
    rcases ho.2 with ⟨h1, _⟩ | ⟨g, cap, cur, hv, _, hh, _⟩
    · rw [h1] at hk'; simp [Value.ownBlock] at hk'
    · have hgk : g = k := by rw [hv] at hk'; simpa [Value.ownBlock] using hk'
      subst hgk
      rw [hs g cur _ _ (by decide) hh, hh]
  · exact Below.grown h.ext hg h.ext.size (fun k hk' => by have := (hb.hi k hk').1; omega)
end Go.Proofs.YtkdkmihgnplooaaGreat

/- The reference takes a task out of nodes: the walk. -/
namespace Go.Proofs.YtkdkmihgnplooaaGreat
open Go.RowKit
set_option maxRecDepth 4000

end Go.Proofs.YtkdkmihgnplooaaGreat

/- The reference lets a task depart. -/
namespace Go.Proofs.YtkdkmihgnplooaaGreat
open Go.RowKit
set_option maxRecDepth 4000

/-- a task departs; the code -/
def departC (C : ClusD) (id : Int) : ClusD × Int :=
  if clusOk C then
    if whereL (C.units.map (·.tasks)) id < 0 then (C, 4)
    else match C.units[(whereL (C.units.map (·.tasks)) id).toNat]? with
      | none => (C, 4)
      | some u => (⟨C.room, C.units.set (whereL (C.units.map (·.tasks)) id).toNat ⟨u.opened, takeL id u.tasks⟩⟩, 0)
  else (⟨[], []⟩, 1)
theorem whereL_lt (bs : List (List TaskD)) (id : Int) : whereL bs id < bs.length := by
  unfold whereL
  split
  · rename_i i h
    rw [List.findIdx?_eq_some_iff_getElem] at h
    have := h.1
    omega
  · omega
theorem whereL_ge (bs : List (List TaskD)) (id : Int) : -1 ≤ whereL bs id := by
  unfold whereL
  split <;> omega
theorem OUV.set1 {w : World} {base g n c : Nat} {ps : List (UnitD × Value)} (h : OUV w base (.slice (some ⟨g, 0, none⟩) n c) ps) {j : Nat} {x : UnitD} {v : Value} (hj : ps[j]? = some (x, v)) (ts : List TaskD) (tv : Value) (ht : OT w base tv ts) :
    OUV (w.setCell ⟨g, j * 2 + 1, none⟩ tv) base (.slice (some ⟨g, 0, none⟩) n c) (ps.set j (⟨x.opened, ts⟩, tv)) ∧ SameT (fun t => t ≠ 66) w (w.setCell ⟨g, j * 2 + 1, none⟩ tv) :=
  Own.set (EUV.ok base) EUV.ne h hj (i := 1) (u := tv) (x' := (⟨x.opened, ts⟩, tv)) (by omega) (fun w' hw cs hl ⟨he, _⟩ => ⟨by rw [he]; rfl, ht.same ET.ok (hw.mono (fun t ht => ht))⟩)
end Go.Proofs.YtkdkmihgnplooaaGreat

/- The reference lets a task depart: the walk. -/
namespace Go.Proofs.YtkdkmihgnplooaaGreat
open Go.RowKit
set_option maxRecDepth 4000

theorem OUV.at1 {w : World} {base g n c : Nat} {ps : List (UnitD × Value)} (h : OUV w base (.slice (some ⟨g, 0, none⟩) n c) ps) {j : Nat} {x : UnitD} {v : Value} (hj : ps[j]? = some (x, v)) :
    w.cell? ⟨g, j * 2 + 1, none⟩ = some v ∧ w.frozen? ⟨g, j * 2 + 1, none⟩ = false ∧ OT w base v x.tasks ∧ base ≤ g := by
  obtain ⟨A, c', hv, _, _, hg⟩ := RSl.get_ (Own.read h)
  obtain ⟨b, o, y, cs, hA, hy, _, ⟨he, ht⟩, hc⟩ := hg j (List.getElem?_eq_some_iff.1 hj).1
  rw [hj] at hy
  injection hy with hy
  subst hy
  injection hv with h1 h2 h3
  rw [hA] at h1
  injection h1 with h1
  injection h1 with h1 h4 _
  subst h1 h4
  have hcell := hc 1 v (by rw [he]; rfl)
  refine ⟨by simpa [Nat.add_assoc] using hcell, ?_, ht, (Own.lt h g rfl).1⟩
  obtain ⟨cells, ho, _⟩ := h
  rcases ho.2 with ⟨h1, _⟩ | ⟨g', cap, cur, h1, _, hg, _⟩
  · cases h1
  · injection h1 with h1 _ _
    injection h1 with h1
    injection h1 with h1 _ _
    subst h1
    exact obj_frozen hg _
theorem OBV.at0 {w : World} {base g n c : Nat} {ts : List TaskD} {v : Value} (h : OBV w base (.slice (some ⟨g, 0, none⟩) n c) [(ts, v)]) : w.cell? ⟨g, 0, none⟩ = some v ∧ OT w base v ts := by
  obtain ⟨A, c', hv, _, _, hg⟩ := RSl.get_ (Own.read h)
  obtain ⟨b, o, y, cs, hA, hy, _, ⟨he, ht⟩, hc⟩ := hg 0 (by simp)
  simp at hy
  subst hy
  injection hv with h1 h2 h3
  rw [hA] at h1
  injection h1 with h1
  injection h1 with h1 h4 _
  subst h1 h4
  have hcell := hc 0 v (by rw [he]; rfl)
  exact ⟨by simpa using hcell, ht⟩
theorem one_bin {qs : List (List TaskD × Value)} {f : List TaskD → List TaskD} {ts : List TaskD} (h : qs.map (·.1) = [ts].map f) : ∃ tv, qs = [(f ts, tv)] := by
  match qs, h with
  | [], h => simp at h
  | [(a, tv)], h => simp at h; exact ⟨tv, by rw [h]⟩
  | _ :: _ :: _, h => simp at h
theorem blocksOf_mem {ps : List (UnitD × Value)} {k : Nat} {q : UnitD × Value} {y : Nat} (h : y ∈ blocksOf (ps.set k q)) : y ∈ blocksOf ps ∨ q.2.ownBlock = some y := by
  obtain ⟨p, hp, hb⟩ := List.mem_filterMap.1 h
  rcases List.mem_or_eq_of_mem_set hp with hp | rfl
  · exact .inl (List.mem_filterMap.2 ⟨p, hp, hb⟩)
  · exact .inr hb
/-- one row in place of another, in a block that no other has -/
theorem nodup_set : ∀ (ps : List (UnitD × Value)) (k : Nat) (q : UnitD × Value), (blocksOf ps).Nodup → (∀ g, q.2.ownBlock = some g → g ∉ blocksOf ps) → (blocksOf (ps.set k q)).Nodup
  | [], _, _, _, _ => by simp [blocksOf]
  | p :: ps, 0, q, hn, hq => by
    have e : ∀ (p : UnitD × Value) ps, blocksOf (p :: ps) = p.2.ownBlock.toList ++ blocksOf ps := fun p ps => by
      unfold blocksOf
      rw [List.filterMap_cons]
      cases p.2.ownBlock <;> rfl
    rw [e] at hn
    rw [List.set_cons_zero, e]
    have hn2 := (List.nodup_append.1 hn).2.1
    cases hb : q.2.ownBlock with
    | none => simpa using hn2
    | some g =>
      have := hq g hb
      rw [e, List.mem_append, not_or] at this
      simp only [Option.toList_some, List.singleton_append, List.nodup_cons]
      exact ⟨this.2, hn2⟩
  | p :: ps, k + 1, q, hn, hq => by
    have e : ∀ (p : UnitD × Value) ps, blocksOf (p :: ps) = p.2.ownBlock.toList ++ blocksOf ps := fun p ps => by
      unfold blocksOf
      rw [List.filterMap_cons]
      cases p.2.ownBlock <;> rfl
    rw [e] at hn
    rw [List.set_cons_succ, e]
    have hn2 := (List.nodup_append.1 hn).2.1
    have ih := nodup_set ps k q hn2 (fun g hg hm => hq g hg (by rw [e]; exact List.mem_append_right _ hm))
    cases hb : p.2.ownBlock with
    | none => simpa using ih
    | some g =>
      rw [hb] at hn
      simp only [Option.toList_some, List.singleton_append, List.nodup_cons] at hn ⊢
      refine ⟨fun hm => ?_, ih⟩
      rcases blocksOf_mem hm with hm | hm
      · exact hn.1 hm
      · exact hq g hm (by rw [e, hb]; simp)

end Go.Proofs.YtkdkmihgnplooaaGreat

/- A unit's row of tasks grows. -/
namespace Go.Proofs.YtkdkmihgnplooaaGreat
open Go.RowKit
set_option maxRecDepth 4000

theorem Own.block_ne {α β : Type} {e e' : TypeId} (hne : e ≠ e') {size size' : Nat} {E : Enc α} {E' : Enc β} {w : World} {base base' : Nat} {v v' : Value} {xs : List α} {ys : List β} (h : Own e size E w base v xs) (h' : Own e' size' E' w base' v' ys) {a : Nat} (ha : v.ownBlock = some a) : v'.ownBlock ≠ some a := by
  intro ha'
  obtain ⟨c, ho, _⟩ := h
  obtain ⟨c', ho', _⟩ := h'
  rcases ho.2 with ⟨rfl, _⟩ | ⟨g, cap, cur, rfl, _, hh, _⟩
  · simp [Value.ownBlock] at ha
  rcases ho'.2 with ⟨rfl, _⟩ | ⟨g', cap', cur', rfl, _, hh', _⟩
  · simp [Value.ownBlock] at ha'
  have e1 : g = a := by simpa [Value.ownBlock] using ha
  have e2 : g' = a := by simpa [Value.ownBlock] using ha'
  rw [e1] at hh
  rw [e2, hh] at hh'
  injection hh' with hh'
  injection hh' with _ h2 _
  exact hne h2
theorem Own.obj {α : Type} {e : TypeId} {size : Nat} {E : Enc α} {w : World} {base g n c : Nat} {xs : List α} (h : Own e size E w base (.slice (some ⟨g, 0, none⟩) n c) xs) : ∃ cur, w.heap[g]? = some (.cells cur e (0, 0)) := by
  obtain ⟨cells, ho, _⟩ := h
  rcases ho.2 with ⟨h1, _⟩ | ⟨g', cap, cur, h1, _, hh, _⟩
  · cases h1
  · injection h1 with h1 _ _
    injection h1 with h1
    injection h1 with h1 _ _
    subst h1
    exact ⟨cur, hh⟩
theorem Cells.setx {α : Type} {size : Nat} {E : Enc α} {w w' : World} {cells : List Value} {xs : List α} (h : Cells size E w cells xs) {j i : Nat} {u : Value} {x x' : α} (hj : xs[j]? = some x) (hi : i < size)
    (ho : ∀ (k : Nat) y cs, k ≠ j → xs[k]? = some y → E w cs y → E w' cs y) (hx : ∀ cs : List Value, cs.length = size → E w cs x → E w' (cs.set i u) x') : Cells size E w' (cells.set (j * size + i) u) (xs.set j x') := by
  refine ⟨by simpa using h.1, fun k y hy => ?_⟩
  by_cases hkj : k = j
  · subst hkj
    have hlt : k < xs.length := (List.getElem?_eq_some_iff.1 hj).1
    rw [List.getElem?_set_self hlt] at hy
    injection hy with hy
    subst hy
    obtain ⟨cs, hl, he, hc⟩ := h.2 k x hj
    refine ⟨cs.set i u, by simpa using hl, hx cs hl he, fun i' u' hu' => ?_⟩
    by_cases hii : i' = i
    · subst hii
      rw [List.getElem?_set_self (by omega)] at hu'
      injection hu' with hu'
      subst hu'
      have : k * size + i' < cells.length := by
        rw [h.1]
        have : (k + 1) * size ≤ xs.length * size := Nat.mul_le_mul_right _ hlt
        rw [Nat.add_mul] at this
        omega
      rw [List.getElem?_set_self this]
    · rw [List.getElem?_set_ne (Ne.symm hii)] at hu'
      rw [List.getElem?_set_ne (by omega)]
      exact hc i' u' hu'
  · rw [List.getElem?_set_ne (Ne.symm hkj)] at hy
    obtain ⟨cs, hl, he, hc⟩ := h.2 k y hy
    refine ⟨cs, hl, ho k y cs hkj hy he, fun i' u' hu' => ?_⟩
    have hi' : i' < size := by rw [← hl]; exact (List.getElem?_eq_some_iff.1 hu').1
    rw [List.getElem?_set_ne (Ne.symm (mul_add_ne hi hi' hkj))]
    exact hc i' u' hu'
theorem blocks_apart {ps : List (UnitD × Value)} (h : (blocksOf ps).Nodup) {i k : Nat} {p q : UnitD × Value} (hi : ps[i]? = some p) (hk : ps[k]? = some q) (hik : i ≠ k) {a : Nat} (ha : p.2.ownBlock = some a) : q.2.ownBlock ≠ some a := by
  intro hb
  unfold blocksOf at h
  rw [List.nodup_iff_pairwise_ne, List.pairwise_filterMap, List.pairwise_iff_getElem] at h
  obtain ⟨li, ei⟩ := List.getElem?_eq_some_iff.1 hi
  obtain ⟨lk, ek⟩ := List.getElem?_eq_some_iff.1 hk
  rcases Nat.lt_or_gt_of_ne hik with hlt | hlt
  · exact h i k li lk hlt a (by rw [ei]; exact ha) a (by rw [ek]; exact hb) rfl
  · exact h k i lk li hlt a (by rw [ek]; exact hb) a (by rw [ei]; exact ha) rfl
/-- one unit's row of tasks has grown (in place or in a block that is new), and the unit takes it -/
theorem OUV.grow {w w' : World} {base g n c : Nat} {ps : List (UnitD × Value)} (h : OUV w base (.slice (some ⟨g, 0, none⟩) n c) ps) (hnd : (blocksOf ps).Nodup) {k : Nat} {u : UnitD} {tv : Value} (hk : ps[k]? = some (u, tv)) (hg : w.grownBy w' tv.ownBlock) (hs : SameT (fun t => t ≠ 36) w w') {ts : List TaskD} {v' : Value} (ht : OT w' base v' ts) :
    OUV (w'.setCell ⟨g, k * 2 + 1, none⟩ v') base (.slice (some ⟨g, 0, none⟩) n c) (ps.set k (⟨u.opened, ts⟩, v')) ∧ SameT (fun t => t ≠ 66) w' (w'.setCell ⟨g, k * 2 + 1, none⟩ v') := by
  have h0 := h
  obtain ⟨cells, ho, hc⟩ := h
  have hn : n = ps.length := by
    rcases ho.2 with ⟨h1, _⟩ | ⟨g', cap, cur, h1, _⟩
    · cases h1
    · injection h1
  subst hn
  rcases ho.2 with ⟨h1, _⟩ | ⟨g', cap, cur, h1, hb, hh, hr⟩
  · cases h1
  have h1' := h1
  injection h1 with h1 _ _
  injection h1 with h1
  injection h1 with h1 _ _
  subst h1
  have hh' := hs _ _ _ _ (by decide) hh
  have ho' : w'.ownsRow base 66 2 (.slice (some ⟨g, 0, none⟩) ps.length c) ps.length cells := ⟨ho.1, .inr ⟨g, cap, cur, h1', hb, hh', hr⟩⟩
  have hs2 : SameT (fun t => t ≠ 66) w' (w'.setCell ⟨g, k * 2 + 1, none⟩ v') := SameT.setCell (p := ⟨g, k * 2 + 1, none⟩) hh' v' (fun t ht => ht)
  have hst := ho'.stored (k * 2 + 1) v'
  refine ⟨⟨cells.set (k * 2 + 1) v', by rw [List.length_set]; exact hst.1, Cells.setx (i := 1) hc hk (by omega) (fun i y cs hik hy ⟨he, hty⟩ => ⟨he, ?_⟩) (fun cs hl ⟨he, _⟩ => ⟨by rw [he]; rfl, Own.same ET.ok ht (hs2.mono (by rintro t (rfl | rfl) <;> decide))⟩)⟩, hs2⟩
  refine OT.far hty (fun a ha => ?_) ((hs.mono (by rintro t rfl; decide)).trans (hs2.mono (by rintro t rfl; decide)))
  have hag : a ≠ g := fun e => Own.block_ne (by decide) hty h0 ha (by rw [e]; rfl)
  exact (Below.heap_setCell _ _ _ _ hag).trans (hg.block a (hty.lt a ha).2 (fun e => blocks_apart hnd hy hk hik ha e.symm))
/-- its block is the one that it was, or new -/
theorem nodup_app {ps : List (UnitD × Value)} (hnd : (blocksOf ps).Nodup) {k H : Nat} {u u' : UnitD} {tv v' : Value} (hk : ps[k]? = some (u, tv)) (hv : v'.ownBlock = tv.ownBlock ∨ v'.ownBlock = some H) (hH : ∀ g ∈ blocksOf ps, g < H) : (blocksOf (ps.set k (u', v'))).Nodup := by
  rcases hv with hv | hv
  · have e : ∀ qs : List (UnitD × Value), blocksOf qs = (qs.map (fun p => p.2.ownBlock)).filterMap id := fun qs => by unfold blocksOf; rw [List.filterMap_map]; rfl
    have e2 : blocksOf (ps.set k (u', v')) = blocksOf ps := by
      rw [e, e, List.map_set]
      congr 1
      exact set_same (x := v'.ownBlock) (by rw [List.getElem?_map, hk, hv]; rfl)
    rw [e2]; exact hnd
  · exact nodup_set ps k _ hnd (fun g hg hm => by
      have hg : v'.ownBlock = some g := hg
      rw [hv] at hg
      injection hg with hg
      have := hH g hm
      omega)

end Go.Proofs.YtkdkmihgnplooaaGreat

/- The reference's new cluster. -/
namespace Go.Proofs.YtkdkmihgnplooaaGreat
open Go.RowKit
set_option maxRecDepth 4000

def newC (room : List Int) (nodes : Int) : ClusD × Bool := if roomOk room then if inB nodes 1 10 then (⟨room, List.replicate nodes.toNat ⟨false, []⟩⟩, true) else (⟨[], []⟩, false) else (⟨[], []⟩, false)

end Go.Proofs.YtkdkmihgnplooaaGreat
