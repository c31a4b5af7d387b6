/- The laws' copy of a cluster. -/
import Derived.Test.YtfgibhdglbjadaaLa2
namespace Go.Proofs.Ytfgibhdglbjadaa
open Go.RowKit
set_option maxRecDepth 4000

theorem notClus : ∀ t, (t = 56 ∨ t = 64 ∨ t = 3) → t ≠ 26 := by rintro t (rfl | rfl | rfl) <;> decide

/-- a cluster of the call's own, by its two values -/
def OClu (w : World) (base : Nat) (cv : Value) (C : ClusD) : Prop := ∃ rv uv, cv = .agg #[rv, uv] ∧ OI w base rv C.room ∧ OU w base uv C.units
theorem OClu.read {w : World} {base : Nat} {cv : Value} {C : ClusD} (h : OClu w base cv C) : ClusV w cv C := let ⟨rv, uv, h1, h2, h3⟩ := h; ⟨rv, uv, h1, h2.read, h3.read⟩
theorem OClu.ext {w w' : World} {base : Nat} {cv : Value} {C : ClusD} (h : OClu w base cv C) (ha : Ext w w') : OClu w' base cv C := let ⟨rv, uv, h1, h2, h3⟩ := h; ⟨rv, uv, h1, h2.ext EI.ok ha, h3.ext EU.ok ha⟩

set_option maxHeartbeats 2000000 in
theorem lToCluster (cv : Value) (C : ClusD) (w : World) (h : ClusX w cv C) (hr : C.room.length ≤ 4000000) (hu : C.units.length ≤ 4000000) (hn : ∀ u ∈ C.units, u.tasks.length ≤ 4000000 ∧ ∀ t ∈ u.tasks, t.need.length ≤ 4000000) :
    Calls Try.prog 23 #[cv] w fun e w' => ∃ v', e = .returned v' ∧ OClu w' w.heap.size v' C ∧ Ext w w' := by
  obtain ⟨rv, uv, rfl, hrv, huv⟩ := h
  have hrv0 := hrv
  have huv0 := huv
  obtain ⟨Ar, cr, rfl, _⟩ := hrv
  obtain ⟨Au, cu, rfl, _⟩ := huv
  have hX : Ext w (((w.alloc (.cells #[.slice Ar C.room.length cr, .slice Au C.units.length cu] 33)).alloc (.cells #[.slice none 0 0, .slice none 0 0] 26)).alloc (.cells #[.slice none 0 0, .slice none 0 0] 26)) :=
    ((Ext.alloc _ _).trans (Ext.alloc _ _)).trans (Ext.alloc _ _)
  have g1 : (((w.alloc (.cells #[.slice Ar C.room.length cr, .slice Au C.units.length cu] 33)).alloc (.cells #[.slice none 0 0, .slice none 0 0] 26)).alloc (.cells #[.slice none 0 0, .slice none 0 0] 26)).heap[w.heap.size]? = some (.cells #[.slice Ar C.room.length cr, .slice Au C.units.length cu] 33 (0, 0)) :=
    (Ext.alloc _ _).obj ((Ext.alloc _ _).obj (heap_alloc_new _ _))
  have g2 : (((w.alloc (.cells #[.slice Ar C.room.length cr, .slice Au C.units.length cu] 33)).alloc (.cells #[.slice none 0 0, .slice none 0 0] 26)).alloc (.cells #[.slice none 0 0, .slice none 0 0] 26)).heap[w.heap.size + 1]? = some (.cells #[.slice none 0 0, .slice none 0 0] 26 (0, 0)) :=
    (Ext.alloc _ _).obj (heap_new (by simp))
  have g3 : (((w.alloc (.cells #[.slice Ar C.room.length cr, .slice Au C.units.length cu] 33)).alloc (.cells #[.slice none 0 0, .slice none 0 0] 26)).alloc (.cells #[.slice none 0 0, .slice none 0 0] 26)).heap[w.heap.size + 1 + 1]? = some (.cells #[.slice none 0 0, .slice none 0 0] 26 (0, 0)) :=
    heap_new (by simp)
  have HX := hid hX
  have G1 := hid g1
  have G2 := hid g2
  have G3 := hid g3
  have HR := hid (XI.ext hrv0 hX)
  have HU := hid huv0
  have b0 := obj_cell g1 (i := 0) rfl
  clear hX g1 g2 g3 hrv0 huv0
  go_enter Try.func23, Try.ntmps23
  go_wp2_with (first
    | (go_at_call 31; refine (lToInts _ C.room _ HR.out hr).mono ?_; rintro e w1 ⟨v1, rfl, hO1, hE1⟩; obtain ⟨A1, c1, rfl, hf1, hf2⟩ := hO1.form; have p1 := hE1.obj G1.out; have p2 := hE1.obj G2.out; have p3 := hE1.obj G3.out; have HO1 := hid (Own.low hO1 HX.out.size); have HE1 := hid (HX.out.trans hE1); clear hO1 hE1; have q0 := obj_cell p3 (i := 0) rfl; have q0f := obj_frozen p3 0; have x1 := obj_far p1 (p := ⟨w.heap.size + 1 + 1, 0, none⟩) (by show w.heap.size ≠ w.heap.size + 1 + 1; omega) (.slice A1 C.room.length c1); have x2 := obj_far p2 (p := ⟨w.heap.size + 1 + 1, 0, none⟩) (by show w.heap.size + 1 ≠ w.heap.size + 1 + 1; omega) (.slice A1 C.room.length c1); have x3 := obj_set p3 0 (.slice A1 C.room.length c1); have y1 := obj_cell x1 (i := 1) rfl; have X2 := hid x2; have X3 := hid x3; have HE2 : Hid (Ext w (w1.setCell ⟨w.heap.size + 1 + 1, 0, none⟩ (.slice A1 C.room.length c1))) := hid (Below.setCell HE1.out (by show w.heap.size ≤ w.heap.size + 1 + 1; omega) _); have HS2 := hid (SameT.setCell (p := ⟨w.heap.size + 1 + 1, 0, none⟩) p3 (.slice A1 C.room.length c1) (T := fun t => t ≠ 26) (fun t ht => ht)); clear x1 x2 x3 p1 p2 p3)
    | (go_at_call 64; refine (lToUnits _ C.units _ (XU.ext HU.out HE2.out) hu hn).mono ?_; rintro e w3 ⟨v3, rfl, hO3, hE3⟩; obtain ⟨A3, c3, rfl, hf3, hf4⟩ := hO3.form; have p2 := hE3.obj X2.out; have p3 := hE3.obj X3.out; have HO3 := hid (Own.low hO3 HE2.out.size); have HE3 := hid (HE2.out.trans hE3); have HS3 := hid (HS2.out.trans (hE3.same (fun t => t ≠ 26))); clear hO3 hE3; have q1 := obj_cell p3 (i := 1) rfl; have q1f := obj_frozen p3 1; have x3 := obj_set p3 1 (.slice A3 C.units.length c3); have x2 := obj_far p2 (p := ⟨w.heap.size + 1 + 1, 1, none⟩) (by show w.heap.size + 1 ≠ w.heap.size + 1 + 1; omega) (.slice A3 C.units.length c3); have z0 := obj_cell x3 (i := 0) rfl; have z1 := obj_cell x3 (i := 1) rfl; have y0 := obj_cell x2 (i := 0) rfl; have y1 := obj_cell x2 (i := 1) rfl; have y0f := obj_frozen x2 0; have y1f := obj_frozen x2 1; have k := obj_set x2 0 (.slice A1 C.room.length c1); have k1 := obj_cell k (i := 1) rfl; have k1f := obj_frozen k 1; have r := obj_set2 x2 (.slice A1 C.room.length c1) (.slice A3 C.units.length c3); have r0 := obj_cell r (i := 0) rfl; have r1 := obj_cell r (i := 1) rfl))
  have hlt := HE3.out.size
  have hE4 : Ext w (((w3.setCell ⟨w.heap.size + 1 + 1, 1, none⟩ (.slice A3 C.units.length c3)).setCell ⟨w.heap.size + 1, 0, none⟩ (.slice A1 C.room.length c1)).setCell ⟨w.heap.size + 1, 1, none⟩ (.slice A3 C.units.length c3)) :=
    Below.setCell (Below.setCell (Below.setCell HE3.out (by show w.heap.size ≤ w.heap.size + 1 + 1; omega) _) (by show w.heap.size ≤ w.heap.size + 1; omega) _) (by show w.heap.size ≤ w.heap.size + 1; omega) _
  have hsm := ((SameT.setCell (p := ⟨w.heap.size + 1 + 1, 1, none⟩) p3 (.slice A3 C.units.length c3) (T := fun t => t ≠ 26) (fun t ht => ht)).trans (SameT.setCell (p := ⟨w.heap.size + 1, 0, none⟩) x2 (.slice A1 C.room.length c1) (T := fun t => t ≠ 26) (fun t ht => ht))).trans (SameT.setCell (p := ⟨w.heap.size + 1, 1, none⟩) k (.slice A3 C.units.length c3) (T := fun t => t ≠ 26) (fun t ht => ht))
  refine bodyPost_ret (v := .agg #[.slice A1 C.room.length c1, .slice A3 C.units.length c3]) (by simp [results, Try.results23, go_sem, r0, r1]) rfl ⟨_, rfl, ⟨_, _, rfl, ?_, ?_⟩, hE4⟩
  · exact Own.same EI.ok HO1.out ((HS3.out.trans hsm).mono (by rintro t (rfl | h) <;> first | decide | exact h.elim))
  · exact Own.same EU.ok HO3.out (hsm.mono notClus)

end Go.Proofs.Ytfgibhdglbjadaa
