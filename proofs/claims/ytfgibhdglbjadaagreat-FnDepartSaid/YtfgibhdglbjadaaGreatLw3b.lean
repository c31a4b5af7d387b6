/- The law FnDepart. -/
import Derived.Test.YtfgibhdglbjadaaGreatK19
import Derived.Test.YtfgibhdglbjadaaGreatK17
import Derived.Test.YtfgibhdglbjadaaGreatK16
namespace Go.Proofs.YtfgibhdglbjadaaGreat
open Go.RowKit
set_option maxRecDepth 4000

set_option maxHeartbeats 8000000 in
theorem lawDepart (v : Value) (bs : List Int) (w : World) (h : XBy w v bs) :
    Calls Tryz.prog 7 #[v] w (RetB w true) := by
  have HB := hid h
  obtain ⟨A, c, rfl, _⟩ := h
  by_cases h1 : bs.length ≤ 1048576
  · have i1 : ¬ (1048576 : Int) < (bs.length : Int) := by omega
    go_enter Tryz.func7, Tryz.ntmps7
    go_wp2_with (go_at_call 32; refine (dDrawDepart _ bs _ HB.out (by omega)).mono ?_; rintro e w1 ⟨cv, C, id, rfl, hO, hS, hnd, hE⟩; obtain ⟨Ar, cr, Au, cu, rfl⟩ := hO.form; have HC := hid hO.read; have HS := hid hS; have HE := hid hE; have HID := hid hnd; obtain ⟨y0, y1, y0f, y1f, k1, k1f, hkk, _⟩ := box2 (heap_alloc_new w1 (.cells #[.slice none 0 0, .slice none 0 0] 26)) (.slice Ar C.room.length cr) (.slice Au C.units.length cu); clear hkk hO hS hE hnd)
    obtain ⟨W, hW⟩ : ∃ W, W = w1.alloc (.cells #[.slice Ar C.room.length cr, .slice Au C.units.length cu] 26) := ⟨_, rfl⟩
    have hEW : Ext w1 W := by rw [hW]; exact Ext.alloc _ _
    have hbx : W.heap[w1.heap.size]? = some (.cells #[.slice Ar C.room.length cr, .slice Au C.units.length cu] 26 (0, 0)) := by rw [hW]; exact heap_alloc_new _ _
    have KB : Hid (∀ w', Ext W w' → w'.cell? ⟨w1.heap.size, 0, none⟩ = some (.slice Ar C.room.length cr) ∧ w'.cell? ⟨w1.heap.size, 1, none⟩ = some (.slice Au C.units.length cu)) := hid fun w' hw => ⟨obj_cell (hw.obj hbx) (i := 0) rfl, obj_cell (hw.obj hbx) (i := 1) rfl⟩
    have hb0 := obj_cell hbx (i := 0) rfl
    have hb1 := obj_cell hbx (i := 1) rfl
    have HEW := hid (HE.out.trans hEW)
    have HO1 := hid (HC.out.ext hEW)
    rw [← hW]
    clear hW y0 y1 y0f y1f k1 k1f hEW hbx
    obtain ⟨R, hR⟩ : ∃ R, R = departC C id := ⟨_, rfl⟩
    have HRR := hid hR
    have HSR : Hid (SmallC R.1) := hid (by rw [hR]; exact (few_depart C id).small)
    clear hR
    by_cases h0 : R.2 = 0
    · have h2 : (departC C id).2 = 0 := by rw [← HRR.out]; exact h0
      have hv1 := (depart_done h2).1
      have hv2 : clusOk R.1 = true := by rw [HRR.out]; exact depart_valid h2
      have HM : Hid (manyN R.1 + 1 = manyN C) := hid (by rw [HRR.out]; exact depart_many h2)
      have HN : Hid (openN R.1 = openN C) := hid (by rw [HRR.out]; exact depart_open h2)
      have HG : Hid (whereC R.1 id = -1) := hid (by rw [whereC_ok hv2, HRR.out]; exact depart_gone h2)
      have HML := hid (manyN_le hv1)
      clear h2
      go_wp2_with (first
        | (go_at_call 21; refine (iClusterCounts _ R.1 _ (HO2.out.ext (HE3.out.trans (HE4.out.trans HE5.out))) HSR.out.len HSR.out.flat HSR.out.ids).mono ?_; rintro e w6 ⟨v6, rfl, hO6, hE6⟩; obtain ⟨g6, c6, rfl, hK6⟩ := counts_row hv2 hO6; have K6 := hid hK6; have HE6 := hid hE6; obtain ⟨hb0, hb1⟩ := KB.out _ (HE2.out.trans (HE3.out.trans (HE4.out.trans (HE5.out.trans HE6.out)))); obtain ⟨p20, p21⟩ := K2.out _ (HE3.out.trans (HE4.out.trans (HE5.out.trans HE6.out))); obtain ⟨p30, p31⟩ := K3.out _ (HE4.out.trans (HE5.out.trans HE6.out)); obtain ⟨q50, q51, q52⟩ := K5.out _ HE6.out; obtain ⟨q60, q61, q62⟩ := K6.out _ (Ext.refl _); clear hO6 hE6 hK6)
        | (go_at_call 21; refine (iClusterCounts _ C _ (HO1.out.ext (HE2.out.trans (HE3.out.trans HE4.out))) HS.out.len HS.out.flat HS.out.ids).mono ?_; rintro e w5 ⟨v5, rfl, hO5, hE5⟩; obtain ⟨g5, c5, rfl, hK5⟩ := counts_row hv1 hO5; have K5 := hid hK5; have HE5 := hid hE5; obtain ⟨hb0, hb1⟩ := KB.out _ (HE2.out.trans (HE3.out.trans (HE4.out.trans HE5.out))); obtain ⟨p20, p21⟩ := K2.out _ (HE3.out.trans (HE4.out.trans HE5.out)); obtain ⟨p30, p31⟩ := K3.out _ (HE4.out.trans HE5.out); obtain ⟨q50, q51, q52⟩ := K5.out _ (Ext.refl _); clear hO5 hE5 hK5)
        | (go_at_call 35; refine (lSameCluster _ _ R.1 _ (HO2.out.ext HE3.out) (HO3.out.ext (Ext.refl _))).mono ?_; rintro e w4 ⟨rfl, hE4⟩; have HE4 := hid hE4; obtain ⟨hb0, hb1⟩ := KB.out _ (HE2.out.trans (HE3.out.trans HE4.out)); obtain ⟨p20, p21⟩ := K2.out _ (HE3.out.trans HE4.out); obtain ⟨p30, p31⟩ := K3.out _ HE4.out; clear hE4)
        | (go_at_call 34; refine (sClusterDepart _ C id _ (HO1.out.ext HE2.out) HS.out.len HS.out.flat).mono ?_; rw [← HRR.out]; rintro e w3 ⟨v3, rfl, hO3, hE3⟩; obtain ⟨A3, c3, B3, d3, rfl⟩ := hO3.form; obtain ⟨y0, y1, y0f, y1f, k1, k1f, hkk, _⟩ := box2 (heap_alloc_new w3 (.cells #[.slice none 0 0, .slice none 0 0] 26)) (.slice A3 R.1.room.length c3) (.slice B3 R.1.units.length d3); have hx3 := Ext.alloc w3 (.cells #[.slice A3 R.1.room.length c3, .slice B3 R.1.units.length d3] 26); have hbx3 := heap_alloc_new w3 (.cells #[.slice A3 R.1.room.length c3, .slice B3 R.1.units.length d3] 26); have HO3 := hid (hO3.read.ext hx3); have HE3 := hid (hE3.trans hx3); have K3 := hid (show ∀ w', Ext (w3.alloc (.cells #[.slice A3 R.1.room.length c3, .slice B3 R.1.units.length d3] 26)) w' → w'.cell? ⟨w3.heap.size, 0, none⟩ = some (.slice A3 R.1.room.length c3) ∧ w'.cell? ⟨w3.heap.size, 1, none⟩ = some (.slice B3 R.1.units.length d3) from fun w' hw => ⟨obj_cell (hw.obj hbx3) (i := 0) rfl, obj_cell (hw.obj hbx3) (i := 1) rfl⟩); obtain ⟨hb0, hb1⟩ := KB.out _ (HE2.out.trans HE3.out); obtain ⟨p20, p21⟩ := K2.out _ HE3.out; obtain ⟨p30, p31⟩ := K3.out _ (Ext.refl _); clear hO3 hE3 hkk hx3 hbx3)
        | (go_at_call 33; refine (iClusterDepart _ C id _ HO1.out HS.out.len HS.out.flat HS.out.ids).mono ?_; rw [← HRR.out]; rintro e w2 ⟨v2, rfl, hO2, hE2⟩; obtain ⟨A2, c2, B2, d2, rfl⟩ := hO2.form; obtain ⟨y0, y1, y0f, y1f, k1, k1f, hkk, _⟩ := box2 (heap_alloc_new w2 (.cells #[.slice none 0 0, .slice none 0 0] 26)) (.slice A2 R.1.room.length c2) (.slice B2 R.1.units.length d2); have hx2 := Ext.alloc w2 (.cells #[.slice A2 R.1.room.length c2, .slice B2 R.1.units.length d2] 26); have hbx2 := heap_alloc_new w2 (.cells #[.slice A2 R.1.room.length c2, .slice B2 R.1.units.length d2] 26); have HO2 := hid (hO2.read.ext hx2); have HE2 := hid (hE2.trans hx2); have K2 := hid (show ∀ w', Ext (w2.alloc (.cells #[.slice A2 R.1.room.length c2, .slice B2 R.1.units.length d2] 26)) w' → w'.cell? ⟨w2.heap.size, 0, none⟩ = some (.slice A2 R.1.room.length c2) ∧ w'.cell? ⟨w2.heap.size, 1, none⟩ = some (.slice B2 R.1.units.length d2) from fun w' hw => ⟨obj_cell (hw.obj hbx2) (i := 0) rfl, obj_cell (hw.obj hbx2) (i := 1) rfl⟩); obtain ⟨hb0, hb1⟩ := KB.out _ HE2.out; obtain ⟨p20, p21⟩ := K2.out _ (Ext.refl _); clear hO2 hE2 hkk hx2 hbx2))
      have KH : Hid (∀ w', Ext w6 w' → w'.cell? ⟨w2.heap.size, 0, none⟩ = some (.slice A2 R.1.room.length c2) ∧ w'.cell? ⟨w2.heap.size, 1, none⟩ = some (.slice B2 R.1.units.length d2) ∧ w'.cell? ⟨g5, 0, none⟩ = some (.int .i64 (openN C : Int)) ∧ w'.cell? ⟨g5, 1, none⟩ = some (.int .i64 (busyN C : Int)) ∧ w'.cell? ⟨g5, 2, none⟩ = some (.int .i64 (manyN C : Int)) ∧ w'.cell? ⟨g6, 0, none⟩ = some (.int .i64 (openN R.1 : Int)) ∧ w'.cell? ⟨g6, 1, none⟩ = some (.int .i64 (busyN R.1 : Int)) ∧ w'.cell? ⟨g6, 2, none⟩ = some (.int .i64 (manyN R.1 : Int)) ∧ Ext w6 w') := hid fun w' hw => ⟨hw.cell p20, hw.cell p21, hw.cell q50, hw.cell q51, hw.cell q52, hw.cell q60, hw.cell q61, hw.cell q62, hw⟩
      have hD0 : Ext w6 w6.drew := Below.drew (Below.refl _ _)
      have e1 : ((openN R.1 : Int) == (openN C : Int)) = true := by rw [HN.out]; simp
      have wm : IntKind.i64.wrap ((manyN C : Int) - 1) = (manyN C : Int) - 1 := IntWalk.i64_in _ (by have := HML.out; omega)
      have e2 : ((manyN R.1 : Int) == (manyN C : Int) - 1) = true := by have := HM.out; simp; omega
      go_region_held3 (fun w' => w'.cell? ⟨w2.heap.size, 0, none⟩ = some (.slice A2 R.1.room.length c2) ∧ w'.cell? ⟨w2.heap.size, 1, none⟩ = some (.slice B2 R.1.units.length d2) ∧ w'.cell? ⟨g5, 0, none⟩ = some (.int .i64 (openN C : Int)) ∧ w'.cell? ⟨g5, 1, none⟩ = some (.int .i64 (busyN C : Int)) ∧ w'.cell? ⟨g5, 2, none⟩ = some (.int .i64 (manyN C : Int)) ∧ w'.cell? ⟨g6, 0, none⟩ = some (.int .i64 (openN R.1 : Int)) ∧ w'.cell? ⟨g6, 1, none⟩ = some (.int .i64 (busyN R.1 : Int)) ∧ w'.cell? ⟨g6, 2, none⟩ = some (.int .i64 (manyN R.1 : Int)) ∧ Ext w6 w')
        (first | exact KH.out _ (by assumption) | exact KH.out _ (Below.drew (Below.refl _ _)))
        ((first
          | (go_at_call 19; refine (iClusterWhere _ R.1 _ _ (HO2.out.ext ((HE3.out.trans (HE4.out.trans (HE5.out.trans HE6.out))).trans (by assumption))) HSR.out.len HSR.out.flat HSR.out.ids).mono ?_; rintro e w8 ⟨rfl, hE8⟩; rw [HG.out]; have h08 : Ext w6 w8 := Ext.trans (by assumption) hE8; have HF8 := hid h08)
          | (go_at_call 37; refine (iClusterValid _ R.1 _ (HO2.out.ext ((HE3.out.trans (HE4.out.trans (HE5.out.trans HE6.out))).trans (by assumption))) HSR.out.len HSR.out.flat HSR.out.ids).mono ?_; rintro e w7 ⟨rfl, hE7⟩; rw [hv2]; have h07 : Ext w6 w7 := Ext.trans (by assumption) hE7; have HF7 := hid h07)))
      go_wp2
      go_ret
      exact ⟨rfl, HEW.out.trans ((HE2.out.trans (HE3.out.trans (HE4.out.trans (HE5.out.trans HE6.out)))).trans HF8.out)⟩
    · have h0' : (R.2 != 0) = true := by simpa using h0
      clear h0
      go_wp2_with (first
        | (go_at_call 35; refine (lSameCluster _ _ R.1 _ (HO2.out.ext (HE3.out.trans HE4.out)) (HO3.out.ext HE4.out)).mono ?_; rintro e w5 ⟨rfl, hE5⟩; have HE5 := hid hE5; obtain ⟨hb0, hb1⟩ := KB.out _ (HE2.out.trans (HE3.out.trans (HE4.out.trans HE5.out))); obtain ⟨p20, p21⟩ := K2.out _ (HE3.out.trans (HE4.out.trans HE5.out)); obtain ⟨p30, p31⟩ := K3.out _ (HE4.out.trans HE5.out); clear hE5)
        | (go_at_call 35; refine (lSameCluster _ _ R.1 _ (HO2.out.ext HE3.out) (HO3.out.ext (Ext.refl _))).mono ?_; rintro e w4 ⟨rfl, hE4⟩; have HE4 := hid hE4; obtain ⟨hb0, hb1⟩ := KB.out _ (HE2.out.trans (HE3.out.trans HE4.out)); obtain ⟨p20, p21⟩ := K2.out _ (HE3.out.trans HE4.out); obtain ⟨p30, p31⟩ := K3.out _ HE4.out; clear hE4)
        | (go_at_call 34; refine (sClusterDepart _ C id _ (HO1.out.ext HE2.out) HS.out.len HS.out.flat).mono ?_; rw [← HRR.out]; rintro e w3 ⟨v3, rfl, hO3, hE3⟩; obtain ⟨A3, c3, B3, d3, rfl⟩ := hO3.form; obtain ⟨y0, y1, y0f, y1f, k1, k1f, hkk, _⟩ := box2 (heap_alloc_new w3 (.cells #[.slice none 0 0, .slice none 0 0] 26)) (.slice A3 R.1.room.length c3) (.slice B3 R.1.units.length d3); have hx3 := Ext.alloc w3 (.cells #[.slice A3 R.1.room.length c3, .slice B3 R.1.units.length d3] 26); have hbx3 := heap_alloc_new w3 (.cells #[.slice A3 R.1.room.length c3, .slice B3 R.1.units.length d3] 26); have HO3 := hid (hO3.read.ext hx3); have HE3 := hid (hE3.trans hx3); have K3 := hid (show ∀ w', Ext (w3.alloc (.cells #[.slice A3 R.1.room.length c3, .slice B3 R.1.units.length d3] 26)) w' → w'.cell? ⟨w3.heap.size, 0, none⟩ = some (.slice A3 R.1.room.length c3) ∧ w'.cell? ⟨w3.heap.size, 1, none⟩ = some (.slice B3 R.1.units.length d3) from fun w' hw => ⟨obj_cell (hw.obj hbx3) (i := 0) rfl, obj_cell (hw.obj hbx3) (i := 1) rfl⟩); obtain ⟨hb0, hb1⟩ := KB.out _ (HE2.out.trans HE3.out); obtain ⟨p20, p21⟩ := K2.out _ HE3.out; obtain ⟨p30, p31⟩ := K3.out _ (Ext.refl _); clear hO3 hE3 hkk hx3 hbx3)
        | (go_at_call 33; refine (iClusterDepart _ C id _ HO1.out HS.out.len HS.out.flat HS.out.ids).mono ?_; rw [← HRR.out]; rintro e w2 ⟨v2, rfl, hO2, hE2⟩; obtain ⟨A2, c2, B2, d2, rfl⟩ := hO2.form; obtain ⟨y0, y1, y0f, y1f, k1, k1f, hkk, _⟩ := box2 (heap_alloc_new w2 (.cells #[.slice none 0 0, .slice none 0 0] 26)) (.slice A2 R.1.room.length c2) (.slice B2 R.1.units.length d2); have hx2 := Ext.alloc w2 (.cells #[.slice A2 R.1.room.length c2, .slice B2 R.1.units.length d2] 26); have hbx2 := heap_alloc_new w2 (.cells #[.slice A2 R.1.room.length c2, .slice B2 R.1.units.length d2] 26); have HO2 := hid (hO2.read.ext hx2); have HE2 := hid (hE2.trans hx2); have K2 := hid (show ∀ w', Ext (w2.alloc (.cells #[.slice A2 R.1.room.length c2, .slice B2 R.1.units.length d2] 26)) w' → w'.cell? ⟨w2.heap.size, 0, none⟩ = some (.slice A2 R.1.room.length c2) ∧ w'.cell? ⟨w2.heap.size, 1, none⟩ = some (.slice B2 R.1.units.length d2) from fun w' hw => ⟨obj_cell (hw.obj hbx2) (i := 0) rfl, obj_cell (hw.obj hbx2) (i := 1) rfl⟩); obtain ⟨hb0, hb1⟩ := KB.out _ HE2.out; obtain ⟨p20, p21⟩ := K2.out _ (Ext.refl _); clear hO2 hE2 hkk hx2 hbx2))
      go_ret
      exact ⟨rfl, HEW.out.trans (HE2.out.trans (HE3.out.trans (HE4.out.trans HE5.out)))⟩
  · have i1 : (1048576 : Int) < (bs.length : Int) := by omega
    go_enter Tryz.func7, Tryz.ntmps7
    go_wp2
    go_ret
    exact ⟨rfl, Ext.refl _⟩

end Go.Proofs.YtfgibhdglbjadaaGreat
