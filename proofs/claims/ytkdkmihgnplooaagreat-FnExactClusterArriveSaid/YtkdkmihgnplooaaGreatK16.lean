/- The program puts a task into a cluster. -/
import Derived.Test.YtkdkmihgnplooaaGreatK15
import Derived.Test.YtkdkmihgnplooaaGreatK4
import Derived.Test.YtkdkmihgnplooaaGreatK8
namespace Go.Proofs.YtkdkmihgnplooaaGreat
open Go.RowKit Go.MuLone

theorem iArrive1 (H base : Nat) (C : ClusD) (ps : List (UnitD × Value)) (rv : Value) (cells : List Value) (nv : Value) (x : TaskD) (grant : Bool) (b1 b2 : Nat) (w : World) (h : HostV w H base C ps rv cells 0) (hbz : base ≤ w.heap.size) (h1 : w.cell? ⟨b1, 0, none⟩ = some (.int .i64 x.id)) (h1' : w.cell? ⟨b1, 1, none⟩ = some nv) (h2 : w.cell? ⟨b2, 0, none⟩ = some (.bool grant)) (hn : RI w nv x.need) (hC : clusOk C = true) (hxi : IdR x.id) :
    Calls Tryz.prog 26 #[.pointer (some ⟨H, 0, none⟩), .pointer (some ⟨b1, 0, none⟩), .pointer (some ⟨b2, 0, none⟩)] w (RetH w H base rv (arriveH C x grant)) := by
  have HH := hid h
  have HN := hid hn
  obtain ⟨An, cn, rfl, _⟩ := hn
  have HC := hid hC
  have HX := hid hxi
  clear h hC hxi
  go_enter Tryz.func26, Tryz.ntmps26
  go_wp2_with (go_at_call 27; refine (iHostArrive H base C ps rv cells _ x grant _ HH.out hbz ⟨_, rfl, HN.out⟩ HC.out HX.out).mono ?_; rintro e w1 ⟨ps', cells', rfl, hh, hb⟩; have HH1 := hid hh; have HB1 := hid hb; clear hh hb)
  go_ret
  exact ⟨_, _, rfl, HH1.out, HB1.out⟩

set_option maxHeartbeats 4000000 in
theorem iDoneArrive (cv : Value) (C : ClusD) (nv : Value) (x : TaskD) (grant : Bool) (b1 b2 : Nat) (w : World) (h : ClusV w cv C) (hl : C.units.length ≤ 4000000) (hfl : (C.units.map (·.tasks)).flatten.length ≤ 4000000) (hid' : ∀ t ∈ (C.units.map (·.tasks)).flatten, IdR t.id) (hc1 : w.cell? ⟨b1, 0, none⟩ = some (.int .i64 x.id)) (hc1b : w.cell? ⟨b1, 1, none⟩ = some nv) (hc2 : w.cell? ⟨b2, 0, none⟩ = some (.bool grant)) (hnv : RI w nv x.need) (hxi : IdR x.id) :
    Calls Tryz.prog 25 #[cv, .func (.func 26) #[] #[.pointer (some ⟨b1, 0, none⟩), .pointer (some ⟨b2, 0, none⟩)]] w (RetOC w (arriveC C x grant)) := by
  have hCV := h
  obtain ⟨rv, uv, rfl, hr, hu⟩ := h
  have hr0 := hr
  have hu0 := hu
  obtain ⟨Ar, cr, rfl, _⟩ := hr
  obtain ⟨Au, cu, rfl, _⟩ := hu
  obtain ⟨W, hW⟩ : ∃ W, W = (w.alloc (.cells #[.slice Ar C.room.length cr, .slice Au C.units.length cu] 32)).alloc (.cells #[.slice none 0 0, .slice none 0 0] 32) := ⟨_, rfl⟩
  have hEW : Ext w W := by rw [hW]; exact (Ext.alloc _ _).trans (Ext.alloc _ _)
  have hb0 : W.heap[w.heap.size]? = some (.cells #[.slice Ar C.room.length cr, .slice Au C.units.length cu] 32 (0, 0)) := by rw [hW]; exact (Ext.alloc _ _).obj (heap_alloc_new w _)
  have hb1 : W.heap[w.heap.size + 1]? = some (.cells #[.slice none 0 0, .slice none 0 0] 32 (0, 0)) := by rw [hW]; exact heap_new (by simp)
  have KB : Hid (∀ w', Ext W w' → w'.cell? ⟨w.heap.size, 0, none⟩ = some (.slice Ar C.room.length cr) ∧ w'.cell? ⟨w.heap.size, 1, none⟩ = some (.slice Au C.units.length cu)) := hid fun w' hw => ⟨obj_cell (hw.obj hb0) (i := 0) rfl, obj_cell (hw.obj hb0) (i := 1) rfl⟩
  have B1 := hid hb1
  have HCV := hid (hCV.ext hEW)
  have HR := hid (RI.ext hr0 hEW)
  have HU := hid (RU.ext hu0 hEW)
  have Hhc1 := hid (hc1)
  have Hhc1b := hid (hc1b)
  have Hhc2 := hid (hc2)
  have Hhnv := hid (hnv)
  have Hhxi := hid (hxi)
  have HEW := hid hEW
  clear hCV hr0 hu0 hb0 hb1 hEW
  by_cases h1 : clusOk C = true
  · have HC : Hid (arriveC C x grant = arriveH C x grant) := hid (by exact arriveC_ok h1 x grant)
    have HS : Hid (SmallC (arriveH C x grant).1) := hid (by rw [← HC.out]; exact (few_arrive C x grant).small)
    obtain ⟨R, hR⟩ : ∃ R, R = arriveH C x grant := ⟨_, rfl⟩
    have HRR := hid hR
    clear hR
    go_enter Tryz.func25, Tryz.ntmps25
    go_wp2_with (first
      | (go_at_call 44; rw [← hW]; refine (iClusterValid _ C _ HCV.out hl hfl hid').mono ?_; rintro e w1 ⟨rfl, hE1⟩; rw [h1]; obtain ⟨c0, c1⟩ := KB.out _ hE1; have HE1 := hid hE1; clear hE1 hW)
      | (go_at_call 45; refine (iHostOf _ _ C _ (RI.ext HR.out HE1.out) (RU.ext HU.out HE1.out) h1).mono ?_; rintro e w2 ⟨H, ps, rv', cells, rfl, hh2, hE2⟩; have HH2 := hid hh2; have HE2 := hid (HE1.out.trans hE2); have HZ2 := hid hE2.size; clear hh2 hE2)
      | (go_at_call 26; refine (iArrive1 H _ C ps rv' cells nv x grant b1 b2 _ HH2.out HZ2.out ((HEW.out.trans HE2.out).cell Hhc1.out) ((HEW.out.trans HE2.out).cell Hhc1b.out) ((HEW.out.trans HE2.out).cell Hhc2.out) (RI.ext Hhnv.out (HEW.out.trans HE2.out)) h1 Hhxi.out).mono ?_; rintro e w3 ⟨ps3, cells3, rfl, hh3, hB3⟩; rw [← HRR.out] at hh3 ⊢; have HH3 := hid hh3; have HB3 := hid hB3; clear hh3 hB3)
      | (go_at_call 46; refine (iHostCluster H _ R.1 ps3 rv' cells3 _ HH3.out (by rw [HRR.out]; exact HS.out)).mono ?_; rintro e w4 ⟨v4, rfl, hO4, hE4⟩; obtain ⟨A4, c4, B4, d4, rfl⟩ := hO4.form; have hb3 : w3.heap[w.heap.size + 1]? = some (.cells #[.slice none 0 0, .slice none 0 0] 32 (0, 0)) := ((HB3.out.block _ (obj_lt (HE1.out.obj B1.out))).trans (HE2.out.obj B1.out)); obtain ⟨y0, y1, y0f, y1f, k1, k1f, hkk, hsm⟩ := box2 (hE4.obj hb3) (.slice A4 R.1.room.length c4) (.slice B4 R.1.units.length d4); have r0 := obj_cell hkk (i := 0) rfl; have r1 := obj_cell hkk (i := 1) rfl; have HSM := hid hsm; have HX : Hid (Ext W w4) := hid (Below.trans HE2.out (Below.trans (HB3.out.mono HE1.out.size) (hE4.mono (Nat.le_trans HE2.out.size HB3.out.size)))); have HO4 := hid (hO4.low (base' := w.heap.size) (Nat.le_trans HEW.out.size (Nat.le_trans HE2.out.size HB3.out.size))); clear hO4 hE4 hb3 hkk hsm))
    refine bodyPost_ret (v := .tuple #[.agg #[.slice A4 R.1.room.length c4, .slice B4 R.1.units.length d4], .int .i64 R.2]) (by simp [results, Tryz.results25, go_sem, r0, r1]) rfl ?_
    rw [HC.out, ← HRR.out]
    exact ⟨_, rfl, HO4.out.same (HSM.out _ notClu), Below.setCell (Below.setCell (HEW.out.trans HX.out) (Nat.le_succ _) _) (Nat.le_succ _) _⟩
  · have h1 : clusOk C = false := by simpa using h1
    have HC : Hid (arriveC C x grant = (⟨[], []⟩, 1)) := hid (by unfold arriveC; rw [h1]; rfl)
    go_enter Tryz.func25, Tryz.ntmps25
    go_wp2_with (go_at_call 44; rw [← hW]; refine (iClusterValid _ C _ HCV.out hl hfl hid').mono ?_; rintro e w1 ⟨rfl, hE1⟩; rw [h1]; have HE1 := hid hE1; obtain ⟨_, _, y0, y1, y0f, y1f, k1, k1f, r0, r1, hsm⟩ := res2 (hE1.obj B1.out) (hE1.obj B1.out); clear hE1 hW hsm)
    refine bodyPost_ret (v := .tuple #[.agg #[.slice none 0 0, .slice none 0 0], .int .i64 1]) (by simp [results, Tryz.results25, go_sem, r0, r1]) rfl ?_
    rw [HC.out]
    exact ⟨_, rfl, OCl.zero _ _, Below.setCell (Below.setCell (HEW.out.trans HE1.out) (Nat.le_succ _) _) (Nat.le_succ _) _⟩

set_option maxHeartbeats 4000000 in
theorem iClusterArrive (cv : Value) (C : ClusD) (xv : Value) (x : TaskD) (grant : Bool) (w : World) (h : ClusV w cv C) (hl : C.units.length ≤ 4000000) (hfl : (C.units.map (·.tasks)).flatten.length ≤ 4000000) (hid' : ∀ t ∈ (C.units.map (·.tasks)).flatten, IdR t.id) (hx : TaskV w xv x) (hxi : IdR x.id) :
    Calls Tryz.prog 9 #[cv, xv, .bool grant] w (RetOC w (arriveC C x grant)) := by
  have hCV := h
  obtain ⟨rv, uv, rfl, hr, hu⟩ := h
  obtain ⟨nv, rfl, hnv⟩ := hx
  have HNV := hid hnv
  obtain ⟨An, cn, rfl, _⟩ := hnv
  have HXI := hid hxi
  clear hxi
  obtain ⟨Ar, cr, rfl, _⟩ := hr
  obtain ⟨Au, cu, rfl, _⟩ := hu
  obtain ⟨W, hW⟩ : ∃ W, W = ((((w.alloc (.cells #[.slice Ar C.room.length cr, .slice Au C.units.length cu] 32)).alloc (.cells #[.int .i64 x.id, .slice An x.need.length cn] 36)).alloc (.cells #[.bool grant] 4)).alloc (.cells #[.slice none 0 0, .slice none 0 0] 32)) := ⟨_, rfl⟩
  have hEW : Ext w W := by rw [hW]; exact (((Ext.alloc _ _).trans (Ext.alloc _ _)).trans (Ext.alloc _ _)).trans (Ext.alloc _ _)
  have hb0 : W.heap[w.heap.size]? = some (.cells #[.slice Ar C.room.length cr, .slice Au C.units.length cu] 32 (0, 0)) := by rw [hW]; exact (Ext.alloc _ _).obj ((Ext.alloc _ _).obj ((Ext.alloc _ _).obj (heap_alloc_new w _)))
  have hb1 : W.heap[w.heap.size + 1]? = some (.cells #[.int .i64 x.id, .slice An x.need.length cn] 36 (0, 0)) := by rw [hW]; exact (Ext.alloc _ _).obj ((Ext.alloc _ _).obj (heap_new (by simp)))
  have hb2 : W.heap[w.heap.size + 2]? = some (.cells #[.bool grant] 4 (0, 0)) := by rw [hW]; exact (Ext.alloc _ _).obj (heap_new (by simp))
  have hb3 : W.heap[w.heap.size + 3]? = some (.cells #[.slice none 0 0, .slice none 0 0] 32 (0, 0)) := by rw [hW]; exact heap_new (by simp)
  have c0 := obj_cell hb0 (i := 0) rfl
  have c1 := obj_cell hb0 (i := 1) rfl
  have d1 := obj_cell hb1 (i := 0) rfl
  have d1b := obj_cell hb1 (i := 1) rfl
  have HNW := hid (RI.ext HNV.out hEW)
  have d2 := obj_cell hb2 (i := 0) rfl
  have BN := hid hb3
  have HCV := hid (hCV.ext hEW)
  have HEW := hid hEW
  clear hCV hEW hb0 hb1 hb2 hb3
  obtain ⟨R, hR⟩ : ∃ R, R = arriveC C x grant := ⟨_, rfl⟩
  rw [← hR]
  have HRR := hid hR
  clear hR
  go_enter Tryz.func9, Tryz.ntmps9
  go_wp2_with (go_at_call 25; rw [← hW]; refine (iDoneArrive _ C _ x grant _ _ _ HCV.out hl hfl hid' d1 d1b d2 HNW.out HXI.out).mono ?_; rw [← HRR.out]; rintro e w1 ⟨v1, rfl, hO1, hE1⟩; obtain ⟨A1, c1', B1, d1', rfl⟩ := hO1.form; obtain ⟨y0, y1, y0f, y1f, k1, k1f, hkk, hsm⟩ := box2 (hE1.obj BN.out) (.slice A1 R.1.room.length c1') (.slice B1 R.1.units.length d1'); have r0 := obj_cell hkk (i := 0) rfl; have r1 := obj_cell hkk (i := 1) rfl; have HSM := hid hsm; have HE1 := hid hE1; have HO1 := hid (hO1.low (base' := w.heap.size) HEW.out.size); clear hO1 hE1 hkk hsm hW)
  refine bodyPost_ret (v := .tuple #[.agg #[.slice A1 R.1.room.length c1', .slice B1 R.1.units.length d1'], .int .i64 R.2]) (by simp [results, Tryz.results9, go_sem, r0, r1]) rfl ?_
  exact ⟨_, rfl, HO1.out.same (HSM.out _ notClu), Below.setCell (Below.setCell (HEW.out.trans HE1.out) (by show w.heap.size ≤ w.heap.size + 3; omega) _) (by show w.heap.size ≤ w.heap.size + 3; omega) _⟩

end Go.Proofs.YtkdkmihgnplooaaGreat
