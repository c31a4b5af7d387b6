/- The law FnArriveWhere. -/
import Derived.Test.YtfgibhdglbjadaaGreatK19
import Derived.Test.YtfgibhdglbjadaaGreatK17
import Derived.Test.YtfgibhdglbjadaaGreatK16
namespace Go.Proofs.YtfgibhdglbjadaaGreat
open Go.RowKit
set_option maxRecDepth 4000

set_option maxHeartbeats 8000000 in
theorem lawArriveWhere (v : Value) (bs : List Int) (w : World) (h : XBy w v bs) :
    Calls Tryz.prog 9 #[v] w (RetB w true) := by
  have HB := hid h
  obtain ⟨A, c, rfl, _⟩ := h
  by_cases h1 : bs.length ≤ 1048576
  · have i1 : ¬ (1048576 : Int) < (bs.length : Int) := by omega
    go_enter Tryz.func9, Tryz.ntmps9
    go_wp2_with (go_at_call 38; refine (dDrawArrive _ bs _ HB.out (by omega)).mono ?_; rintro e w1 ⟨cv, C, xid, nv, need, g, rfl, hO, hS, hN, hNl, hnd, hE⟩; obtain ⟨Ar, cr, Au, cu, rfl⟩ := hO.form; obtain ⟨An, cn, rfl, _⟩ := hN.form; have HC := hid hO.read; have HS := hid hS; have HE := hid hE; have HID := hid hnd; have HNd := hid hN.read; have HNL := hid hNl; obtain ⟨y0, y1, y0f, y1f, k1, k1f, hkk, _⟩ := box2 (H := w1.heap.size) ((Ext.alloc (w1.alloc (.cells #[.slice none 0 0, .slice none 0 0] 26)) (.cells #[.int .i64 0, .slice none 0 0] 34)).obj (heap_alloc_new w1 (.cells #[.slice none 0 0, .slice none 0 0] 26))) (.slice Ar C.room.length cr) (.slice Au C.units.length cu); obtain ⟨z0, z1, z0f, z1f, l1, l1f, hll, _⟩ := box2 (heap_alloc_new (w1.alloc (.cells #[.slice Ar C.room.length cr, .slice Au C.units.length cu] 26)) (.cells #[.int .i64 0, .slice none 0 0] 34)) (.int .i64 xid) (.slice An need.length cn); clear hkk hll hO hS hE hN hNl hnd)
    obtain ⟨W, hW⟩ : ∃ W, W = (w1.alloc (.cells #[.slice Ar C.room.length cr, .slice Au C.units.length cu] 26)).alloc (.cells #[.int .i64 xid, .slice An need.length cn] 34) := ⟨_, rfl⟩
    have hEW : Ext w1 W := by rw [hW]; exact (Ext.alloc _ _).trans (Ext.alloc _ _)
    have hbx : W.heap[w1.heap.size]? = some (.cells #[.slice Ar C.room.length cr, .slice Au C.units.length cu] 26 (0, 0)) := by rw [hW]; exact (Ext.alloc _ _).obj (heap_alloc_new _ _)
    have hbt : W.heap[w1.heap.size + 1]? = some (.cells #[.int .i64 xid, .slice An need.length cn] 34 (0, 0)) := by rw [hW]; exact heap_new (by simp)
    have KB : Hid (∀ w', Ext W w' → w'.cell? ⟨w1.heap.size, 0, none⟩ = some (.slice Ar C.room.length cr) ∧ w'.cell? ⟨w1.heap.size, 1, none⟩ = some (.slice Au C.units.length cu) ∧ w'.cell? ⟨w1.heap.size + 1, 0, none⟩ = some (.int .i64 xid) ∧ w'.cell? ⟨w1.heap.size + 1, 1, none⟩ = some (.slice An need.length cn)) := hid fun w' hw => ⟨obj_cell (hw.obj hbx) (i := 0) rfl, obj_cell (hw.obj hbx) (i := 1) rfl, obj_cell (hw.obj hbt) (i := 0) rfl, obj_cell (hw.obj hbt) (i := 1) rfl⟩
    obtain ⟨hb0, hb1, hb2, hb3⟩ := KB.out _ (Ext.refl _)
    have HEW := hid (HE.out.trans hEW)
    have HO1 := hid (HC.out.ext hEW)
    have HNW := hid (RI.ext HNd.out hEW)
    rw [← hW]
    clear hW y0 y1 y0f y1f k1 k1f z0 z1 z0f z1f l1 l1f hEW hbx hbt
    obtain ⟨x, hx⟩ : ∃ x : TaskD, x = ⟨xid, need⟩ := ⟨_, rfl⟩
    have HX := hid hx
    have HXI : Hid (IdR x.id) := hid (by rw [hx]; exact HID.out)
    have HXV : Hid (TaskV W (.agg #[.int .i64 xid, .slice An need.length cn]) x) := hid (by rw [hx]; exact ⟨_, rfl, HNW.out⟩)
    clear hx
    obtain ⟨R, hR⟩ : ∃ R, R = arriveC C x g := ⟨_, rfl⟩
    have HRR := hid hR
    have HSR : Hid (SmallC R.1) := hid (by rw [hR]; exact (few_arrive C x g).small)
    clear hR
    by_cases h0 : R.2 = 0
    · have hw0 : Hid (∀ k : Int, k ≠ xid → whereC R.1 k = whereC C k) := hid fun k hk => by
        have h2 : (arriveC C x g).2 = 0 := by rw [← HRR.out]; exact h0
        rw [HRR.out, whereC_ok (arrive_valid h2), whereC_ok (arrive_done h2).1]
        exact arrive_where h2 (by rw [HX.out]; exact hk)
      have h0' : (R.2 != 0) = false := by simp [h0]
      go_wp2_with (first
        | (go_at_call 35; refine (lSameCluster _ _ R.1 _ (HO2.out.ext HE3.out) (HO3.out.ext (Ext.refl _))).mono ?_; rintro e w4 ⟨rfl, hE4⟩; have HE4 := hid hE4; obtain ⟨hb0, hb1, hb2, hb3⟩ := KB.out _ (HE2.out.trans (HE3.out.trans HE4.out)); obtain ⟨p20, p21⟩ := K2.out _ (HE3.out.trans HE4.out); obtain ⟨p30, p31⟩ := K3.out _ HE4.out; clear hE4)
        | (go_at_call 24; refine (sClusterArrive _ _ C x g _ (HO1.out.ext HE2.out) (HXV.out.ext HE2.out) HS.out.len HS.out.flat).mono ?_; rw [← HRR.out]; rintro e w3 ⟨v3, rfl, hO3, hE3⟩; obtain ⟨A3, c3, B3, d3, rfl⟩ := hO3.form; obtain ⟨y0, y1, y0f, y1f, k1, k1f, hkk, _⟩ := box2 (heap_alloc_new w3 (.cells #[.slice none 0 0, .slice none 0 0] 26)) (.slice A3 R.1.room.length c3) (.slice B3 R.1.units.length d3); have hx3 := Ext.alloc w3 (.cells #[.slice A3 R.1.room.length c3, .slice B3 R.1.units.length d3] 26); have hbx3 := heap_alloc_new w3 (.cells #[.slice A3 R.1.room.length c3, .slice B3 R.1.units.length d3] 26); have HO3 := hid (hO3.read.ext hx3); have HE3 := hid (hE3.trans hx3); have K3 := hid (show ∀ w', Ext (w3.alloc (.cells #[.slice A3 R.1.room.length c3, .slice B3 R.1.units.length d3] 26)) w' → w'.cell? ⟨w3.heap.size, 0, none⟩ = some (.slice A3 R.1.room.length c3) ∧ w'.cell? ⟨w3.heap.size, 1, none⟩ = some (.slice B3 R.1.units.length d3) from fun w' hw => ⟨obj_cell (hw.obj hbx3) (i := 0) rfl, obj_cell (hw.obj hbx3) (i := 1) rfl⟩); obtain ⟨hb0, hb1, hb2, hb3⟩ := KB.out _ (HE2.out.trans HE3.out); obtain ⟨p20, p21⟩ := K2.out _ HE3.out; obtain ⟨p30, p31⟩ := K3.out _ (Ext.refl _); clear hO3 hE3 hkk hx3 hbx3)
        | (go_at_call 20; refine (iClusterArrive _ C _ x g _ HO1.out HS.out.len HS.out.flat HS.out.ids HXV.out HXI.out).mono ?_; rw [← HRR.out]; rintro e w2 ⟨v2, rfl, hO2, hE2⟩; obtain ⟨A2, c2, B2, d2, rfl⟩ := hO2.form; obtain ⟨y0, y1, y0f, y1f, k1, k1f, hkk, _⟩ := box2 (heap_alloc_new w2 (.cells #[.slice none 0 0, .slice none 0 0] 26)) (.slice A2 R.1.room.length c2) (.slice B2 R.1.units.length d2); have hx2 := Ext.alloc w2 (.cells #[.slice A2 R.1.room.length c2, .slice B2 R.1.units.length d2] 26); have hbx2 := heap_alloc_new w2 (.cells #[.slice A2 R.1.room.length c2, .slice B2 R.1.units.length d2] 26); have HO2 := hid (hO2.read.ext hx2); have HE2 := hid (hE2.trans hx2); have K2 := hid (show ∀ w', Ext (w2.alloc (.cells #[.slice A2 R.1.room.length c2, .slice B2 R.1.units.length d2] 26)) w' → w'.cell? ⟨w2.heap.size, 0, none⟩ = some (.slice A2 R.1.room.length c2) ∧ w'.cell? ⟨w2.heap.size, 1, none⟩ = some (.slice B2 R.1.units.length d2) from fun w' hw => ⟨obj_cell (hw.obj hbx2) (i := 0) rfl, obj_cell (hw.obj hbx2) (i := 1) rfl⟩); obtain ⟨hb0, hb1, hb2, hb3⟩ := KB.out _ HE2.out; obtain ⟨p20, p21⟩ := K2.out _ (Ext.refl _); clear hO2 hE2 hkk hx2 hbx2))
      go_loopw [10] (fun i wr => ∃ j : Nat, 1 ≤ j ∧ j ≤ 41 ∧ i = .int .i64 j ∧ Hid (Ext w4 wr)) (fun i _ => 41 - (intOf i).toNat)
      case atStart => exact ⟨1, by omega, by omega, rfl, hid (Ext.refl _)⟩
      case round =>
        obtain ⟨j, hj1, hj, rfl, hE⟩ := hrel
        obtain ⟨qb0, qb1, qb2, qb3⟩ := KB.out _ ((HE2.out.trans (HE3.out.trans HE4.out)).trans hE.out)
        obtain ⟨p20, p21⟩ := K2.out _ ((HE3.out.trans HE4.out).trans hE.out)
        by_cases hjl : j ≤ 40
        · have ij : (j : Int) ≤ 40 := by omega
          by_cases hjk : (j : Int) = xid
          · have hne : ((j : Int) != xid) = false := by rw [hjk]; simp
            clear hjk
            go_wp2
            go_quiet (fail)
            go_wp2
            go_roundw
            case rel => exact ⟨j + 1, by omega, by omega, by go_num, hid (hE.out.trans (Ext.drewN _ _))⟩
            case measure => simp [intOf]; omega
          · have hne : ((j : Int) != xid) = true := by simpa using hjk
            obtain ⟨z, hz⟩ : ∃ z, z = whereC C j := ⟨_, rfl⟩
            have HZ := hid hz
            have HZR : Hid (whereC R.1 j = z) := hid (by rw [hw0.out _ hjk, hz])
            have KH : Hid (∀ w', Ext wr w' → w'.cell? ⟨w1.heap.size, 0, none⟩ = some (.slice Ar C.room.length cr) ∧ w'.cell? ⟨w1.heap.size, 1, none⟩ = some (.slice Au C.units.length cu) ∧ w'.cell? ⟨w1.heap.size + 1, 0, none⟩ = some (.int .i64 xid) ∧ w'.cell? ⟨w2.heap.size, 0, none⟩ = some (.slice A2 R.1.room.length c2) ∧ w'.cell? ⟨w2.heap.size, 1, none⟩ = some (.slice B2 R.1.units.length d2) ∧ Ext wr w') :=
              hid fun w' hw => ⟨hw.cell qb0, hw.cell qb1, hw.cell qb2, hw.cell p20, hw.cell p21, hw⟩
            clear hz hjk
            have hD0 : Ext wr wr.drew := Below.drew (Below.refl _ _)
            go_wp2
            go_region_held3 (fun w' => w'.cell? ⟨w1.heap.size, 0, none⟩ = some (.slice Ar C.room.length cr) ∧ w'.cell? ⟨w1.heap.size, 1, none⟩ = some (.slice Au C.units.length cu) ∧ w'.cell? ⟨w1.heap.size + 1, 0, none⟩ = some (.int .i64 xid) ∧ w'.cell? ⟨w2.heap.size, 0, none⟩ = some (.slice A2 R.1.room.length c2) ∧ w'.cell? ⟨w2.heap.size, 1, none⟩ = some (.slice B2 R.1.units.length d2) ∧ Ext wr w')
              (first | exact KH.out _ (by assumption) | exact KH.out _ (Below.drew (Below.refl _ _)))
              ((first
                | (go_at_call 19; have hq8 := HF8.out; refine (iClusterWhere _ C _ _ (HO1.out.ext ((HE2.out.trans (HE3.out.trans HE4.out)).trans (hE.out.trans (by assumption)))) HS.out.len HS.out.flat HS.out.ids).mono ?_; rintro e w9 ⟨rfl, hE9⟩; rw [← HZ.out]; have h09 : Ext wr w9 := Ext.trans (by assumption) hE9; have HF9 := hid h09)
                | (go_at_call 19; refine (iClusterWhere _ R.1 _ _ (HO2.out.ext ((HE3.out.trans HE4.out).trans (hE.out.trans (by assumption)))) HSR.out.len HSR.out.flat HSR.out.ids).mono ?_; rintro e w8 ⟨rfl, hE8⟩; rw [HZR.out]; have h08 : Ext wr w8 := Ext.trans (by assumption) hE8; have HF8 := hid h08)))
            have hzz : (z != z) = false := by simp
            go_wp2
            go_roundw
            case rel => exact ⟨j + 1, by omega, by omega, by go_num, hid (hE.out.trans (Ext.trans HF9.out (Ext.drewN _ 0)))⟩
            case measure => simp [intOf]; omega
        · go_wp2
          go_ret
          exact ⟨rfl, HEW.out.trans ((HE2.out.trans (HE3.out.trans HE4.out)).trans hE.out)⟩
    · have h0' : (R.2 != 0) = true := by simpa using h0
      clear h0
      go_wp2_with (first
        | (go_at_call 35; refine (lSameCluster _ _ R.1 _ (HO2.out.ext (HE3.out.trans HE4.out)) (HO3.out.ext HE4.out)).mono ?_; rintro e w5 ⟨rfl, hE5⟩; have HE5 := hid hE5; obtain ⟨hb0, hb1, hb2, hb3⟩ := KB.out _ (HE2.out.trans (HE3.out.trans (HE4.out.trans HE5.out))); obtain ⟨p20, p21⟩ := K2.out _ (HE3.out.trans (HE4.out.trans HE5.out)); obtain ⟨p30, p31⟩ := K3.out _ (HE4.out.trans HE5.out); clear hE5)
        | (go_at_call 35; refine (lSameCluster _ _ R.1 _ (HO2.out.ext HE3.out) (HO3.out.ext (Ext.refl _))).mono ?_; rintro e w4 ⟨rfl, hE4⟩; have HE4 := hid hE4; obtain ⟨hb0, hb1, hb2, hb3⟩ := KB.out _ (HE2.out.trans (HE3.out.trans HE4.out)); obtain ⟨p20, p21⟩ := K2.out _ (HE3.out.trans HE4.out); obtain ⟨p30, p31⟩ := K3.out _ HE4.out; clear hE4)
        | (go_at_call 24; refine (sClusterArrive _ _ C x g _ (HO1.out.ext HE2.out) (HXV.out.ext HE2.out) HS.out.len HS.out.flat).mono ?_; rw [← HRR.out]; rintro e w3 ⟨v3, rfl, hO3, hE3⟩; obtain ⟨A3, c3, B3, d3, rfl⟩ := hO3.form; obtain ⟨y0, y1, y0f, y1f, k1, k1f, hkk, _⟩ := box2 (heap_alloc_new w3 (.cells #[.slice none 0 0, .slice none 0 0] 26)) (.slice A3 R.1.room.length c3) (.slice B3 R.1.units.length d3); have hx3 := Ext.alloc w3 (.cells #[.slice A3 R.1.room.length c3, .slice B3 R.1.units.length d3] 26); have hbx3 := heap_alloc_new w3 (.cells #[.slice A3 R.1.room.length c3, .slice B3 R.1.units.length d3] 26); have HO3 := hid (hO3.read.ext hx3); have HE3 := hid (hE3.trans hx3); have K3 := hid (show ∀ w', Ext (w3.alloc (.cells #[.slice A3 R.1.room.length c3, .slice B3 R.1.units.length d3] 26)) w' → w'.cell? ⟨w3.heap.size, 0, none⟩ = some (.slice A3 R.1.room.length c3) ∧ w'.cell? ⟨w3.heap.size, 1, none⟩ = some (.slice B3 R.1.units.length d3) from fun w' hw => ⟨obj_cell (hw.obj hbx3) (i := 0) rfl, obj_cell (hw.obj hbx3) (i := 1) rfl⟩); obtain ⟨hb0, hb1, hb2, hb3⟩ := KB.out _ (HE2.out.trans HE3.out); obtain ⟨p20, p21⟩ := K2.out _ HE3.out; obtain ⟨p30, p31⟩ := K3.out _ (Ext.refl _); clear hO3 hE3 hkk hx3 hbx3)
        | (go_at_call 20; refine (iClusterArrive _ C _ x g _ HO1.out HS.out.len HS.out.flat HS.out.ids HXV.out HXI.out).mono ?_; rw [← HRR.out]; rintro e w2 ⟨v2, rfl, hO2, hE2⟩; obtain ⟨A2, c2, B2, d2, rfl⟩ := hO2.form; obtain ⟨y0, y1, y0f, y1f, k1, k1f, hkk, _⟩ := box2 (heap_alloc_new w2 (.cells #[.slice none 0 0, .slice none 0 0] 26)) (.slice A2 R.1.room.length c2) (.slice B2 R.1.units.length d2); have hx2 := Ext.alloc w2 (.cells #[.slice A2 R.1.room.length c2, .slice B2 R.1.units.length d2] 26); have hbx2 := heap_alloc_new w2 (.cells #[.slice A2 R.1.room.length c2, .slice B2 R.1.units.length d2] 26); have HO2 := hid (hO2.read.ext hx2); have HE2 := hid (hE2.trans hx2); have K2 := hid (show ∀ w', Ext (w2.alloc (.cells #[.slice A2 R.1.room.length c2, .slice B2 R.1.units.length d2] 26)) w' → w'.cell? ⟨w2.heap.size, 0, none⟩ = some (.slice A2 R.1.room.length c2) ∧ w'.cell? ⟨w2.heap.size, 1, none⟩ = some (.slice B2 R.1.units.length d2) from fun w' hw => ⟨obj_cell (hw.obj hbx2) (i := 0) rfl, obj_cell (hw.obj hbx2) (i := 1) rfl⟩); obtain ⟨hb0, hb1, hb2, hb3⟩ := KB.out _ HE2.out; obtain ⟨p20, p21⟩ := K2.out _ (Ext.refl _); clear hO2 hE2 hkk hx2 hbx2))
      go_ret
      exact ⟨rfl, HEW.out.trans (HE2.out.trans (HE3.out.trans (HE4.out.trans HE5.out)))⟩
  · have i1 : (1048576 : Int) < (bs.length : Int) := by omega
    go_enter Tryz.func9, Tryz.ntmps9
    go_wp2
    go_ret
    exact ⟨rfl, Ext.refl _⟩

end Go.Proofs.YtfgibhdglbjadaaGreat
