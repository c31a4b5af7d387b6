/- The law FnArriveDepart. -/
import Derived.Test.YtfgibhdglbjadaaGreatK19
import Derived.Test.YtfgibhdglbjadaaGreatK17
import Derived.Test.YtfgibhdglbjadaaGreatK16
namespace Go.Proofs.YtfgibhdglbjadaaGreat
open Go.RowKit
set_option maxRecDepth 4000

set_option maxHeartbeats 8000000 in
theorem lawArriveDepart (v : Value) (bs : List Int) (w : World) (h : XBy w v bs) :
    Calls Tryz.prog 12 #[v] w (RetB w true) := by
  have HB := hid h
  obtain ⟨A, c, rfl, _⟩ := h
  by_cases h1 : bs.length ≤ 1048576
  · have i1 : ¬ (1048576 : Int) < (bs.length : Int) := by omega
    go_enter Tryz.func12, Tryz.ntmps12
    go_wp2_with (go_at_call 38; refine (dDrawArrive _ bs _ HB.out (by omega)).mono ?_; rintro e w1 ⟨cv, C, xid, nv, need, g, rfl, hO, hS, hN, hNl, hnd, hE⟩; obtain ⟨Ar, cr, Au, cu, rfl⟩ := hO.form; obtain ⟨An, cn, rfl, _⟩ := hN.form; have HC := hid hO.read; have HS := hid hS; have HE := hid hE; have HID := hid hnd; have HNd := hid hN.read; have HNL := hid hNl; obtain ⟨y0, y1, y0f, y1f, k1, k1f, hkk, _⟩ := box2 (H := w1.heap.size) ((Ext.alloc (w1.alloc (.cells #[.slice none 0 0, .slice none 0 0] 26)) (.cells #[.int .i64 0, .slice none 0 0] 34)).obj (heap_alloc_new w1 (.cells #[.slice none 0 0, .slice none 0 0] 26))) (.slice Ar C.room.length cr) (.slice Au C.units.length cu); obtain ⟨z0, z1, z0f, z1f, l1, l1f, hll, _⟩ := box2 (heap_alloc_new (w1.alloc (.cells #[.slice Ar C.room.length cr, .slice Au C.units.length cu] 26)) (.cells #[.int .i64 0, .slice none 0 0] 34)) (.int .i64 xid) (.slice An need.length cn); clear hkk hll hO hS hE hN hNl hnd)
    obtain ⟨W, hW⟩ : ∃ W, W = (w1.alloc (.cells #[.slice Ar C.room.length cr, .slice Au C.units.length cu] 26)).alloc (.cells #[.int .i64 xid, .slice An need.length cn] 34) := ⟨_, rfl⟩
    have hEW : Ext w1 W := by rw [hW]; exact (Ext.alloc _ _).trans (Ext.alloc _ _)
    have hbx : W.heap[w1.heap.size]? = some (.cells #[.slice Ar C.room.length cr, .slice Au C.units.length cu] 26 (0, 0)) := by rw [hW]; exact (Ext.alloc _ _).obj (heap_alloc_new _ _)
    have hbt : W.heap[w1.heap.size + 1]? = some (.cells #[.int .i64 xid, .slice An need.length cn] 34 (0, 0)) := by rw [hW]; exact heap_new (by simp)
    have KB : Hid (∀ w', Ext W w' → w'.cell? ⟨w1.heap.size, 0, none⟩ = some (.slice Ar C.room.length cr) ∧ w'.cell? ⟨w1.heap.size, 1, none⟩ = some (.slice Au C.units.length cu) ∧ w'.cell? ⟨w1.heap.size + 1, 0, none⟩ = some (.int .i64 xid) ∧ w'.cell? ⟨w1.heap.size + 1, 1, none⟩ = some (.slice An need.length cn)) := hid fun w' hw => ⟨obj_cell (hw.obj hbx) (i := 0) rfl, obj_cell (hw.obj hbx) (i := 1) rfl, obj_cell (hw.obj hbt) (i := 0) rfl, obj_cell (hw.obj hbt) (i := 1) rfl⟩
    obtain ⟨hb0, hb1, hb2, hb3⟩ := KB.out _ (Ext.refl _)
    have HEW := hid (HE.out.trans hEW)
    have HO1 := hid (HC.out.ext hEW)
    have HNW := hid (RI.ext HNd.out hEW)
    rw [← hW]
    clear hW y0 y1 y0f y1f k1 k1f z0 z1 z0f z1f l1 l1f hEW hbx hbt
    obtain ⟨x, hx⟩ : ∃ x : TaskD, x = ⟨xid, need⟩ := ⟨_, rfl⟩
    have HX := hid hx
    have HXI : Hid (IdR x.id) := hid (by rw [hx]; exact HID.out)
    have HXV : Hid (TaskV W (.agg #[.int .i64 xid, .slice An need.length cn]) x) := hid (by rw [hx]; exact ⟨_, rfl, HNW.out⟩)
    clear hx
    obtain ⟨R, hR⟩ : ∃ R, R = arriveC C x g := ⟨_, rfl⟩
    have HRR := hid hR
    have HSR : Hid (SmallC R.1) := hid (by rw [hR]; exact (few_arrive C x g).small)
    clear hR
    by_cases h0 : R.2 = 0
    · have h2 : (arriveC C x g).2 = 0 := by rw [← HRR.out]; exact h0
      have hv1 := (arrive_done h2).1
      have hv2 : clusOk R.1 = true := by rw [HRR.out]; exact arrive_valid h2
      have h0' : (R.2 != 0) = false := by simp [h0]
      have had := arrive_depart h2
      rw [← HRR.out] at had
      obtain ⟨Y, hY⟩ : ∃ Y, Y = departC R.1 x.id := ⟨_, rfl⟩
      rw [← hY] at had
      have HY : Hid (Y = departC R.1 xid) := hid (by rw [HX.out] at hY; exact hY)
      have hy2 : Y.2 = 0 := had.1
      have HYC := hid had.2
      clear h2 had hY
      by_cases ho : openN R.1 = openN C
      · have HYE : Hid (Y.1 = C) := hid (HYC.out ho)
        have eo : ((openN R.1 : Int) != (openN C : Int)) = false := by rw [ho]; simp
        clear ho HYC
        go_wp2_with (first
          | (go_at_call 33; refine (iClusterDepart _ R.1 xid _ (HO2.out.ext (HE3.out.trans HE4.out)) HSR.out.len HSR.out.flat HSR.out.ids).mono ?_; rw [← HY.out]; rintro e w5 ⟨v5, rfl, hO5, hE5⟩; obtain ⟨A5, c5, B5, d5, rfl⟩ := hO5.form; obtain ⟨y0, y1, y0f, y1f, k1, k1f, hkk, _⟩ := box2 (heap_alloc_new w5 (.cells #[.slice none 0 0, .slice none 0 0] 26)) (.slice A5 Y.1.room.length c5) (.slice B5 Y.1.units.length d5); have hx5 := Ext.alloc w5 (.cells #[.slice A5 Y.1.room.length c5, .slice B5 Y.1.units.length d5] 26); have hbx5 := heap_alloc_new w5 (.cells #[.slice A5 Y.1.room.length c5, .slice B5 Y.1.units.length d5] 26); have HO5 := hid (hO5.read.ext hx5); have HE5 := hid (hE5.trans hx5); have K5 := hid (show ∀ w', Ext (w5.alloc (.cells #[.slice A5 Y.1.room.length c5, .slice B5 Y.1.units.length d5] 26)) w' → w'.cell? ⟨w5.heap.size, 0, none⟩ = some (.slice A5 Y.1.room.length c5) ∧ w'.cell? ⟨w5.heap.size, 1, none⟩ = some (.slice B5 Y.1.units.length d5) from fun w' hw => ⟨obj_cell (hw.obj hbx5) (i := 0) rfl, obj_cell (hw.obj hbx5) (i := 1) rfl⟩); obtain ⟨hb0, hb1, hb2, hb3⟩ := KB.out _ (HE2.out.trans (HE3.out.trans (HE4.out.trans HE5.out))); obtain ⟨p20, p21⟩ := K2.out _ (HE3.out.trans (HE4.out.trans HE5.out)); obtain ⟨p30, p31⟩ := K3.out _ (HE4.out.trans HE5.out); obtain ⟨p50, p51⟩ := K5.out _ (Ext.refl _); clear hO5 hE5 hkk hx5 hbx5)
          | (go_at_call 35; refine (lSameCluster _ _ R.1 _ (HO2.out.ext HE3.out) (HO3.out.ext (Ext.refl _))).mono ?_; rintro e w4 ⟨rfl, hE4⟩; have HE4 := hid hE4; obtain ⟨hb0, hb1, hb2, hb3⟩ := KB.out _ (HE2.out.trans (HE3.out.trans HE4.out)); obtain ⟨p20, p21⟩ := K2.out _ (HE3.out.trans HE4.out); obtain ⟨p30, p31⟩ := K3.out _ HE4.out; clear hE4)
          | (go_at_call 24; refine (sClusterArrive _ _ C x g _ (HO1.out.ext HE2.out) (HXV.out.ext HE2.out) HS.out.len HS.out.flat).mono ?_; rw [← HRR.out]; rintro e w3 ⟨v3, rfl, hO3, hE3⟩; obtain ⟨A3, c3, B3, d3, rfl⟩ := hO3.form; obtain ⟨y0, y1, y0f, y1f, k1, k1f, hkk, _⟩ := box2 (heap_alloc_new w3 (.cells #[.slice none 0 0, .slice none 0 0] 26)) (.slice A3 R.1.room.length c3) (.slice B3 R.1.units.length d3); have hx3 := Ext.alloc w3 (.cells #[.slice A3 R.1.room.length c3, .slice B3 R.1.units.length d3] 26); have hbx3 := heap_alloc_new w3 (.cells #[.slice A3 R.1.room.length c3, .slice B3 R.1.units.length d3] 26); have HO3 := hid (hO3.read.ext hx3); have HE3 := hid (hE3.trans hx3); have K3 := hid (show ∀ w', Ext (w3.alloc (.cells #[.slice A3 R.1.room.length c3, .slice B3 R.1.units.length d3] 26)) w' → w'.cell? ⟨w3.heap.size, 0, none⟩ = some (.slice A3 R.1.room.length c3) ∧ w'.cell? ⟨w3.heap.size, 1, none⟩ = some (.slice B3 R.1.units.length d3) from fun w' hw => ⟨obj_cell (hw.obj hbx3) (i := 0) rfl, obj_cell (hw.obj hbx3) (i := 1) rfl⟩); obtain ⟨hb0, hb1, hb2, hb3⟩ := KB.out _ (HE2.out.trans HE3.out); obtain ⟨p20, p21⟩ := K2.out _ HE3.out; obtain ⟨p30, p31⟩ := K3.out _ (Ext.refl _); clear hO3 hE3 hkk hx3 hbx3)
          | (go_at_call 20; refine (iClusterArrive _ C _ x g _ HO1.out HS.out.len HS.out.flat HS.out.ids HXV.out HXI.out).mono ?_; rw [← HRR.out]; rintro e w2 ⟨v2, rfl, hO2, hE2⟩; obtain ⟨A2, c2, B2, d2, rfl⟩ := hO2.form; obtain ⟨y0, y1, y0f, y1f, k1, k1f, hkk, _⟩ := box2 (heap_alloc_new w2 (.cells #[.slice none 0 0, .slice none 0 0] 26)) (.slice A2 R.1.room.length c2) (.slice B2 R.1.units.length d2); have hx2 := Ext.alloc w2 (.cells #[.slice A2 R.1.room.length c2, .slice B2 R.1.units.length d2] 26); have hbx2 := heap_alloc_new w2 (.cells #[.slice A2 R.1.room.length c2, .slice B2 R.1.units.length d2] 26); have HO2 := hid (hO2.read.ext hx2); have HE2 := hid (hE2.trans hx2); have K2 := hid (show ∀ w', Ext (w2.alloc (.cells #[.slice A2 R.1.room.length c2, .slice B2 R.1.units.length d2] 26)) w' → w'.cell? ⟨w2.heap.size, 0, none⟩ = some (.slice A2 R.1.room.length c2) ∧ w'.cell? ⟨w2.heap.size, 1, none⟩ = some (.slice B2 R.1.units.length d2) from fun w' hw => ⟨obj_cell (hw.obj hbx2) (i := 0) rfl, obj_cell (hw.obj hbx2) (i := 1) rfl⟩); obtain ⟨hb0, hb1, hb2, hb3⟩ := KB.out _ HE2.out; obtain ⟨p20, p21⟩ := K2.out _ (Ext.refl _); clear hO2 hE2 hkk hx2 hbx2))
        obtain ⟨P5, hP5⟩ : ∃ P, P = (w5.alloc (.cells #[.slice A5 Y.1.room.length c5, .slice B5 Y.1.units.length d5] 26)) := ⟨_, rfl⟩
        have HE5 : Hid (Ext w4 P5) := hid (by rw [hP5]; exact HE5.out)
        have HO5 : Hid (ClusV P5 (.agg #[.slice A5 Y.1.room.length c5, .slice B5 Y.1.units.length d5]) Y.1) := hid (by rw [hP5]; exact HO5.out)
        have K5' : Hid (∀ w', Ext P5 w' → w'.cell? ⟨w5.heap.size, 0, none⟩ = some (.slice A5 Y.1.room.length c5) ∧ w'.cell? ⟨w5.heap.size, 1, none⟩ = some (.slice B5 Y.1.units.length d5)) := hid (by rw [hP5]; exact K5.out)
        rw [← hP5]
        clear hP5
        obtain ⟨hb0, hb1, _, _⟩ := KB.out _ (HE2.out.trans (HE3.out.trans (HE4.out.trans HE5.out)))
        obtain ⟨p20, p21⟩ := K2.out _ (HE3.out.trans (HE4.out.trans HE5.out))
        have KH : Hid (∀ w', Ext P5 w' → w'.cell? ⟨w1.heap.size, 0, none⟩ = some (.slice Ar C.room.length cr) ∧ w'.cell? ⟨w1.heap.size, 1, none⟩ = some (.slice Au C.units.length cu) ∧ w'.cell? ⟨w2.heap.size, 0, none⟩ = some (.slice A2 R.1.room.length c2) ∧ w'.cell? ⟨w2.heap.size, 1, none⟩ = some (.slice B2 R.1.units.length d2) ∧ w'.cell? ⟨w5.heap.size, 0, none⟩ = some (.slice A5 Y.1.room.length c5) ∧ w'.cell? ⟨w5.heap.size, 1, none⟩ = some (.slice B5 Y.1.units.length d5) ∧ Ext P5 w') := hid fun w' hw => ⟨hw.cell hb0, hw.cell hb1, hw.cell p20, hw.cell p21, (K5'.out _ hw).1, (K5'.out _ hw).2, hw⟩
        refine WG.start (fun w' => w'.cell? ⟨w1.heap.size, 0, none⟩ = some (.slice Ar C.room.length cr) ∧ w'.cell? ⟨w1.heap.size, 1, none⟩ = some (.slice Au C.units.length cu) ∧ w'.cell? ⟨w2.heap.size, 0, none⟩ = some (.slice A2 R.1.room.length c2) ∧ w'.cell? ⟨w2.heap.size, 1, none⟩ = some (.slice B2 R.1.units.length d2) ∧ w'.cell? ⟨w5.heap.size, 0, none⟩ = some (.slice A5 Y.1.room.length c5) ∧ w'.cell? ⟨w5.heap.size, 1, none⟩ = some (.slice B5 Y.1.units.length d5) ∧ Ext P5 w') [14] (by kernel_rfl) (by exact KH.out _ (Below.drew (Below.refl _ _))) (fun hHeld => ?_)
        (refine WG.take (i := 0) (v := ?_) rfl (by kernel_rfl) (by kernel_rfl) (by kernel_rfl) (by kernel_rfl) (fun _ _ _ h => h) (Or.inl ⟨by rfl, ?_⟩) (by assumption) ?_; rotate_left; (intro w hSw; (try dsimp only at hSw); go_split_ands; go_simp; (try with_reducible rfl)); (try simp only [Act.put, List.setIfInBounds_toArray, List.set_cons_zero, List.set_cons_succ]))
        (refine WG.take (i := 4) (v := ?_) rfl (by kernel_rfl) (by kernel_rfl) (by kernel_rfl) (by kernel_rfl) (fun _ _ _ h => h) (Or.inl ⟨by rfl, ?_⟩) (by assumption) ?_; rotate_left; (intro w hSw; (try dsimp only at hSw); go_split_ands; go_simp; (try with_reducible rfl)); (try simp only [Act.put, List.setIfInBounds_toArray, List.set_cons_zero, List.set_cons_succ]))
        refine WG.one (i := 1) rfl (by kernel_rfl) (fun K hK => ?_)
        go_simp
        refine (iClusterCounts _ R.1 _ (HO2.out.ext ((HE3.out.trans (HE4.out.trans HE5.out)).trans (Below.drew (Below.refl _ _)))) HSR.out.len HSR.out.flat HSR.out.ids).mono ?_
        rintro e w7 ⟨v7, rfl, hO7, hE7⟩
        obtain ⟨g7, c7, rfl, hK7⟩ := counts_row hv2 hO7
        have HF7 : Hid (Ext P5 w7) := hid (Ext.trans (Below.drew (Below.refl _ _)) hE7)
        have K7 := hid hK7
        clear hO7 hE7 hK7
        (try dsimp only)
        refine hK.out _ _ (by exact KH.out _ HF7.out) (fun hHeld => ?_)
        clear hK K
        (try simp only [Act.put, List.setIfInBounds_toArray, List.set_cons_zero, List.set_cons_succ])
        refine WG.strong (fun w' => (w'.cell? ⟨w1.heap.size, 0, none⟩ = some (.slice Ar C.room.length cr) ∧ w'.cell? ⟨w1.heap.size, 1, none⟩ = some (.slice Au C.units.length cu) ∧ w'.cell? ⟨w2.heap.size, 0, none⟩ = some (.slice A2 R.1.room.length c2) ∧ w'.cell? ⟨w2.heap.size, 1, none⟩ = some (.slice B2 R.1.units.length d2) ∧ w'.cell? ⟨w5.heap.size, 0, none⟩ = some (.slice A5 Y.1.room.length c5) ∧ w'.cell? ⟨w5.heap.size, 1, none⟩ = some (.slice B5 Y.1.units.length d5) ∧ Ext P5 w') ∧ w'.cell? ⟨g7, 0, none⟩ = some (.int .i64 (openN R.1 : Int))) (fun w' h => h.1) (And.intro (KH.out _ HF7.out) (K7.out _ (Ext.refl _)).1) (fun hHeld2 => ?_)
        (refine WG.take (i := 2) (v := ?_) rfl (by kernel_rfl) (by kernel_rfl) (by kernel_rfl) (by kernel_rfl) (fun _ _ _ h => h) (Or.inl ⟨by rfl, ?_⟩) (by assumption) ?_; rotate_left; (intro w hSw; (try dsimp only at hSw); go_split_ands; go_simp; (try with_reducible rfl)); (try simp only [Act.put, List.setIfInBounds_toArray, List.set_cons_zero, List.set_cons_succ]))
        (refine WG.take (i := 3) (v := ?_) rfl (by kernel_rfl) (by kernel_rfl) (by kernel_rfl) (by kernel_rfl) (fun _ _ _ h => h) (Or.inl ⟨by rfl, ?_⟩) (by assumption) ?_; rotate_left; (intro w hSw; (try dsimp only at hSw); go_split_ands; go_simp; (try with_reducible rfl)); (try simp only [Act.put, List.setIfInBounds_toArray, List.set_cons_zero, List.set_cons_succ]))
        refine WG.one (i := 5) rfl (by kernel_rfl) (fun K hK => ?_)
        go_simp
        refine (iClusterCounts _ C _ (HO1.out.ext ((HE2.out.trans (HE3.out.trans (HE4.out.trans HE5.out))).trans HF7.out)) HS.out.len HS.out.flat HS.out.ids).mono ?_
        rintro e w8 ⟨v8, rfl, hO8, hE8⟩
        obtain ⟨g8, c8, rfl, hK8⟩ := counts_row hv1 hO8
        have HF8 := hid (HF7.out.trans hE8)
        have HF78 := hid hE8
        have K8 := hid hK8
        clear hO8 hE8 hK8
        (try dsimp only)
        refine hK.out _ _ (by exact And.intro (KH.out _ HF8.out) (K7.out _ HF78.out).1) (fun hHeld => ?_)
        clear hK K
        (try simp only [Act.put, List.setIfInBounds_toArray, List.set_cons_zero, List.set_cons_succ])
        refine WG.strong (fun w' => ((w'.cell? ⟨w1.heap.size, 0, none⟩ = some (.slice Ar C.room.length cr) ∧ w'.cell? ⟨w1.heap.size, 1, none⟩ = some (.slice Au C.units.length cu) ∧ w'.cell? ⟨w2.heap.size, 0, none⟩ = some (.slice A2 R.1.room.length c2) ∧ w'.cell? ⟨w2.heap.size, 1, none⟩ = some (.slice B2 R.1.units.length d2) ∧ w'.cell? ⟨w5.heap.size, 0, none⟩ = some (.slice A5 Y.1.room.length c5) ∧ w'.cell? ⟨w5.heap.size, 1, none⟩ = some (.slice B5 Y.1.units.length d5) ∧ Ext P5 w') ∧ w'.cell? ⟨g7, 0, none⟩ = some (.int .i64 (openN R.1 : Int))) ∧ w'.cell? ⟨g8, 0, none⟩ = some (.int .i64 (openN C : Int))) (fun w' h => h.1) (And.intro (And.intro (KH.out _ HF8.out) (K7.out _ HF78.out).1) (K8.out _ (Ext.refl _)).1) (fun hHeld3 => ?_)
        (refine WG.take (i := 6) (v := ?_) rfl (by kernel_rfl) (by kernel_rfl) (by kernel_rfl) (by kernel_rfl) (fun _ _ _ h => h) (Or.inl ⟨by rfl, ?_⟩) (by assumption) ?_; rotate_left; (intro w hSw; (try dsimp only at hSw); go_split_ands; go_simp; (try with_reducible rfl)); (try simp only [Act.put, List.setIfInBounds_toArray, List.set_cons_zero, List.set_cons_succ]))
        (refine WG.take (i := 7) (v := ?_) rfl (by kernel_rfl) (by kernel_rfl) (by kernel_rfl) (by kernel_rfl) (fun _ _ _ h => h) (Or.inl ⟨by rfl, ?_⟩) (by assumption) ?_; rotate_left; (intro w hSw; (try dsimp only at hSw); go_split_ands; go_simp; (try with_reducible rfl)); (try simp only [Act.put, List.setIfInBounds_toArray, List.set_cons_zero, List.set_cons_succ]))
        (refine WG.take (i := 8) (v := ?_) rfl (by kernel_rfl) (by kernel_rfl) (by kernel_rfl) (by kernel_rfl) (fun _ _ _ h => h) (Or.inl ⟨by rfl, ?_⟩) (by assumption) ?_; rotate_left; (intro w hSw; (try dsimp only at hSw); go_split_ands; go_simp; (try with_reducible rfl)); (try simp only [Act.put, List.setIfInBounds_toArray, List.set_cons_zero, List.set_cons_succ]))
        (refine WG.take (i := 9) (v := ?_) rfl (by kernel_rfl) (by kernel_rfl) (by kernel_rfl) (by kernel_rfl) (fun _ _ _ h => h) (Or.inl ⟨by rfl, ?_⟩) (by assumption) ?_; rotate_left; (intro w hSw; (try dsimp only at hSw); go_split_ands; go_simp; (try with_reducible rfl)); (try simp only [Act.put, List.setIfInBounds_toArray, List.set_cons_zero, List.set_cons_succ]))
        (refine WG.take (i := 10) (v := ?_) rfl (by kernel_rfl) (by kernel_rfl) (by kernel_rfl) (by kernel_rfl) (fun _ _ _ h => h) (Or.inl ⟨by rfl, ?_⟩) (by assumption) ?_; rotate_left; (intro w hSw; (try dsimp only at hSw); go_split_ands; go_simp; (try with_reducible rfl)); (try simp only [Act.put, List.setIfInBounds_toArray, List.set_cons_zero, List.set_cons_succ]))
        (refine WG.take (i := 11) (v := ?_) rfl (by kernel_rfl) (by kernel_rfl) (by kernel_rfl) (by kernel_rfl) (fun _ _ _ h => h) (Or.inl ⟨by rfl, ?_⟩) (by assumption) ?_; rotate_left; (intro w hSw; (try dsimp only at hSw); go_split_ands; go_simp; (try with_reducible rfl)); (try simp only [Act.put, List.setIfInBounds_toArray, List.set_cons_zero, List.set_cons_succ]))
        refine WG.one (i := 12) rfl (by kernel_rfl) (fun K hK => ?_)
        go_simp
        refine (lSameCluster _ _ C _ (by rw [← HYE.out]; exact HO5.out.ext HF8.out) (HO1.out.ext ((HE2.out.trans (HE3.out.trans (HE4.out.trans HE5.out))).trans HF8.out))).mono ?_
        rintro e w9 ⟨rfl, hE9⟩
        have HF9 := hid (HF8.out.trans hE9)
        have HF89 := hid hE9
        clear hE9
        (try dsimp only)
        refine hK.out _ _ (by exact And.intro (And.intro (KH.out _ HF9.out) (K7.out _ (HF78.out.trans HF89.out)).1) (K8.out _ HF89.out).1) (fun hHeld => ?_)
        clear hK K
        (try simp only [Act.put, List.setIfInBounds_toArray, List.set_cons_zero, List.set_cons_succ])
        (refine WG.take (i := 13) (v := ?_) rfl (by kernel_rfl) (by kernel_rfl) (by kernel_rfl) (by kernel_rfl) (fun _ _ _ h => h) (Or.inl ⟨by rfl, ?_⟩) (by assumption) ?_; rotate_left; (intro w hSw; (try dsimp only at hSw); go_split_ands; go_simp; (try with_reducible rfl)); (try simp only [Act.put, List.setIfInBounds_toArray, List.set_cons_zero, List.set_cons_succ]))
        refine WG.last (i := 14) rfl (by kernel_rfl) (by kernel_rfl) (fun K hK => ?_)
        go_simp
        refine hK.out _ _ ?_
        clear hK K
        (try simp only [Act.put, List.setIfInBounds_toArray, List.set_cons_zero, List.set_cons_succ])
        refine WG.done (by kernel_rfl) ?_
        go_wp2
        go_ret
        exact ⟨rfl, HEW.out.trans ((HE2.out.trans (HE3.out.trans (HE4.out.trans HE5.out))).trans HF9.out)⟩
      · have eo : ((openN R.1 : Int) != (openN C : Int)) = true := by simp; omega
        clear ho
        go_wp2_with (first
          | (go_at_call 33; refine (iClusterDepart _ R.1 xid _ (HO2.out.ext (HE3.out.trans HE4.out)) HSR.out.len HSR.out.flat HSR.out.ids).mono ?_; rw [← HY.out]; rintro e w5 ⟨v5, rfl, hO5, hE5⟩; obtain ⟨A5, c5, B5, d5, rfl⟩ := hO5.form; obtain ⟨y0, y1, y0f, y1f, k1, k1f, hkk, _⟩ := box2 (heap_alloc_new w5 (.cells #[.slice none 0 0, .slice none 0 0] 26)) (.slice A5 Y.1.room.length c5) (.slice B5 Y.1.units.length d5); have hx5 := Ext.alloc w5 (.cells #[.slice A5 Y.1.room.length c5, .slice B5 Y.1.units.length d5] 26); have hbx5 := heap_alloc_new w5 (.cells #[.slice A5 Y.1.room.length c5, .slice B5 Y.1.units.length d5] 26); have HO5 := hid (hO5.read.ext hx5); have HE5 := hid (hE5.trans hx5); have K5 := hid (show ∀ w', Ext (w5.alloc (.cells #[.slice A5 Y.1.room.length c5, .slice B5 Y.1.units.length d5] 26)) w' → w'.cell? ⟨w5.heap.size, 0, none⟩ = some (.slice A5 Y.1.room.length c5) ∧ w'.cell? ⟨w5.heap.size, 1, none⟩ = some (.slice B5 Y.1.units.length d5) from fun w' hw => ⟨obj_cell (hw.obj hbx5) (i := 0) rfl, obj_cell (hw.obj hbx5) (i := 1) rfl⟩); obtain ⟨hb0, hb1, hb2, hb3⟩ := KB.out _ (HE2.out.trans (HE3.out.trans (HE4.out.trans HE5.out))); obtain ⟨p20, p21⟩ := K2.out _ (HE3.out.trans (HE4.out.trans HE5.out)); obtain ⟨p30, p31⟩ := K3.out _ (HE4.out.trans HE5.out); obtain ⟨p50, p51⟩ := K5.out _ (Ext.refl _); clear hO5 hE5 hkk hx5 hbx5)
          | (go_at_call 35; refine (lSameCluster _ _ R.1 _ (HO2.out.ext HE3.out) (HO3.out.ext (Ext.refl _))).mono ?_; rintro e w4 ⟨rfl, hE4⟩; have HE4 := hid hE4; obtain ⟨hb0, hb1, hb2, hb3⟩ := KB.out _ (HE2.out.trans (HE3.out.trans HE4.out)); obtain ⟨p20, p21⟩ := K2.out _ (HE3.out.trans HE4.out); obtain ⟨p30, p31⟩ := K3.out _ HE4.out; clear hE4)
          | (go_at_call 24; refine (sClusterArrive _ _ C x g _ (HO1.out.ext HE2.out) (HXV.out.ext HE2.out) HS.out.len HS.out.flat).mono ?_; rw [← HRR.out]; rintro e w3 ⟨v3, rfl, hO3, hE3⟩; obtain ⟨A3, c3, B3, d3, rfl⟩ := hO3.form; obtain ⟨y0, y1, y0f, y1f, k1, k1f, hkk, _⟩ := box2 (heap_alloc_new w3 (.cells #[.slice none 0 0, .slice none 0 0] 26)) (.slice A3 R.1.room.length c3) (.slice B3 R.1.units.length d3); have hx3 := Ext.alloc w3 (.cells #[.slice A3 R.1.room.length c3, .slice B3 R.1.units.length d3] 26); have hbx3 := heap_alloc_new w3 (.cells #[.slice A3 R.1.room.length c3, .slice B3 R.1.units.length d3] 26); have HO3 := hid (hO3.read.ext hx3); have HE3 := hid (hE3.trans hx3); have K3 := hid (show ∀ w', Ext (w3.alloc (.cells #[.slice A3 R.1.room.length c3, .slice B3 R.1.units.length d3] 26)) w' → w'.cell? ⟨w3.heap.size, 0, none⟩ = some (.slice A3 R.1.room.length c3) ∧ w'.cell? ⟨w3.heap.size, 1, none⟩ = some (.slice B3 R.1.units.length d3) from fun w' hw => ⟨obj_cell (hw.obj hbx3) (i := 0) rfl, obj_cell (hw.obj hbx3) (i := 1) rfl⟩); obtain ⟨hb0, hb1, hb2, hb3⟩ := KB.out _ (HE2.out.trans HE3.out); obtain ⟨p20, p21⟩ := K2.out _ HE3.out; obtain ⟨p30, p31⟩ := K3.out _ (Ext.refl _); clear hO3 hE3 hkk hx3 hbx3)
          | (go_at_call 20; refine (iClusterArrive _ C _ x g _ HO1.out HS.out.len HS.out.flat HS.out.ids HXV.out HXI.out).mono ?_; rw [← HRR.out]; rintro e w2 ⟨v2, rfl, hO2, hE2⟩; obtain ⟨A2, c2, B2, d2, rfl⟩ := hO2.form; obtain ⟨y0, y1, y0f, y1f, k1, k1f, hkk, _⟩ := box2 (heap_alloc_new w2 (.cells #[.slice none 0 0, .slice none 0 0] 26)) (.slice A2 R.1.room.length c2) (.slice B2 R.1.units.length d2); have hx2 := Ext.alloc w2 (.cells #[.slice A2 R.1.room.length c2, .slice B2 R.1.units.length d2] 26); have hbx2 := heap_alloc_new w2 (.cells #[.slice A2 R.1.room.length c2, .slice B2 R.1.units.length d2] 26); have HO2 := hid (hO2.read.ext hx2); have HE2 := hid (hE2.trans hx2); have K2 := hid (show ∀ w', Ext (w2.alloc (.cells #[.slice A2 R.1.room.length c2, .slice B2 R.1.units.length d2] 26)) w' → w'.cell? ⟨w2.heap.size, 0, none⟩ = some (.slice A2 R.1.room.length c2) ∧ w'.cell? ⟨w2.heap.size, 1, none⟩ = some (.slice B2 R.1.units.length d2) from fun w' hw => ⟨obj_cell (hw.obj hbx2) (i := 0) rfl, obj_cell (hw.obj hbx2) (i := 1) rfl⟩); obtain ⟨hb0, hb1, hb2, hb3⟩ := KB.out _ HE2.out; obtain ⟨p20, p21⟩ := K2.out _ (Ext.refl _); clear hO2 hE2 hkk hx2 hbx2))
        obtain ⟨P5, hP5⟩ : ∃ P, P = (w5.alloc (.cells #[.slice A5 Y.1.room.length c5, .slice B5 Y.1.units.length d5] 26)) := ⟨_, rfl⟩
        have HE5 : Hid (Ext w4 P5) := hid (by rw [hP5]; exact HE5.out)
        have HO5 : Hid (ClusV P5 (.agg #[.slice A5 Y.1.room.length c5, .slice B5 Y.1.units.length d5]) Y.1) := hid (by rw [hP5]; exact HO5.out)
        have K5' : Hid (∀ w', Ext P5 w' → w'.cell? ⟨w5.heap.size, 0, none⟩ = some (.slice A5 Y.1.room.length c5) ∧ w'.cell? ⟨w5.heap.size, 1, none⟩ = some (.slice B5 Y.1.units.length d5)) := hid (by rw [hP5]; exact K5.out)
        rw [← hP5]
        clear hP5
        obtain ⟨hb0, hb1, _, _⟩ := KB.out _ (HE2.out.trans (HE3.out.trans (HE4.out.trans HE5.out)))
        obtain ⟨p20, p21⟩ := K2.out _ (HE3.out.trans (HE4.out.trans HE5.out))
        have KH : Hid (∀ w', Ext P5 w' → w'.cell? ⟨w1.heap.size, 0, none⟩ = some (.slice Ar C.room.length cr) ∧ w'.cell? ⟨w1.heap.size, 1, none⟩ = some (.slice Au C.units.length cu) ∧ w'.cell? ⟨w2.heap.size, 0, none⟩ = some (.slice A2 R.1.room.length c2) ∧ w'.cell? ⟨w2.heap.size, 1, none⟩ = some (.slice B2 R.1.units.length d2) ∧ w'.cell? ⟨w5.heap.size, 0, none⟩ = some (.slice A5 Y.1.room.length c5) ∧ w'.cell? ⟨w5.heap.size, 1, none⟩ = some (.slice B5 Y.1.units.length d5) ∧ Ext P5 w') := hid fun w' hw => ⟨hw.cell hb0, hw.cell hb1, hw.cell p20, hw.cell p21, (K5'.out _ hw).1, (K5'.out _ hw).2, hw⟩
        refine WG.start (fun w' => w'.cell? ⟨w1.heap.size, 0, none⟩ = some (.slice Ar C.room.length cr) ∧ w'.cell? ⟨w1.heap.size, 1, none⟩ = some (.slice Au C.units.length cu) ∧ w'.cell? ⟨w2.heap.size, 0, none⟩ = some (.slice A2 R.1.room.length c2) ∧ w'.cell? ⟨w2.heap.size, 1, none⟩ = some (.slice B2 R.1.units.length d2) ∧ w'.cell? ⟨w5.heap.size, 0, none⟩ = some (.slice A5 Y.1.room.length c5) ∧ w'.cell? ⟨w5.heap.size, 1, none⟩ = some (.slice B5 Y.1.units.length d5) ∧ Ext P5 w') [14] (by kernel_rfl) (by exact KH.out _ (Below.drew (Below.refl _ _))) (fun hHeld => ?_)
        (refine WG.take (i := 0) (v := ?_) rfl (by kernel_rfl) (by kernel_rfl) (by kernel_rfl) (by kernel_rfl) (fun _ _ _ h => h) (Or.inl ⟨by rfl, ?_⟩) (by assumption) ?_; rotate_left; (intro w hSw; (try dsimp only at hSw); go_split_ands; go_simp; (try with_reducible rfl)); (try simp only [Act.put, List.setIfInBounds_toArray, List.set_cons_zero, List.set_cons_succ]))
        (refine WG.take (i := 4) (v := ?_) rfl (by kernel_rfl) (by kernel_rfl) (by kernel_rfl) (by kernel_rfl) (fun _ _ _ h => h) (Or.inl ⟨by rfl, ?_⟩) (by assumption) ?_; rotate_left; (intro w hSw; (try dsimp only at hSw); go_split_ands; go_simp; (try with_reducible rfl)); (try simp only [Act.put, List.setIfInBounds_toArray, List.set_cons_zero, List.set_cons_succ]))
        refine WG.one (i := 1) rfl (by kernel_rfl) (fun K hK => ?_)
        go_simp
        refine (iClusterCounts _ R.1 _ (HO2.out.ext ((HE3.out.trans (HE4.out.trans HE5.out)).trans (Below.drew (Below.refl _ _)))) HSR.out.len HSR.out.flat HSR.out.ids).mono ?_
        rintro e w7 ⟨v7, rfl, hO7, hE7⟩
        obtain ⟨g7, c7, rfl, hK7⟩ := counts_row hv2 hO7
        have HF7 : Hid (Ext P5 w7) := hid (Ext.trans (Below.drew (Below.refl _ _)) hE7)
        have K7 := hid hK7
        clear hO7 hE7 hK7
        (try dsimp only)
        refine hK.out _ _ (by exact KH.out _ HF7.out) (fun hHeld => ?_)
        clear hK K
        (try simp only [Act.put, List.setIfInBounds_toArray, List.set_cons_zero, List.set_cons_succ])
        refine WG.strong (fun w' => (w'.cell? ⟨w1.heap.size, 0, none⟩ = some (.slice Ar C.room.length cr) ∧ w'.cell? ⟨w1.heap.size, 1, none⟩ = some (.slice Au C.units.length cu) ∧ w'.cell? ⟨w2.heap.size, 0, none⟩ = some (.slice A2 R.1.room.length c2) ∧ w'.cell? ⟨w2.heap.size, 1, none⟩ = some (.slice B2 R.1.units.length d2) ∧ w'.cell? ⟨w5.heap.size, 0, none⟩ = some (.slice A5 Y.1.room.length c5) ∧ w'.cell? ⟨w5.heap.size, 1, none⟩ = some (.slice B5 Y.1.units.length d5) ∧ Ext P5 w') ∧ w'.cell? ⟨g7, 0, none⟩ = some (.int .i64 (openN R.1 : Int))) (fun w' h => h.1) (And.intro (KH.out _ HF7.out) (K7.out _ (Ext.refl _)).1) (fun hHeld2 => ?_)
        (refine WG.take (i := 2) (v := ?_) rfl (by kernel_rfl) (by kernel_rfl) (by kernel_rfl) (by kernel_rfl) (fun _ _ _ h => h) (Or.inl ⟨by rfl, ?_⟩) (by assumption) ?_; rotate_left; (intro w hSw; (try dsimp only at hSw); go_split_ands; go_simp; (try with_reducible rfl)); (try simp only [Act.put, List.setIfInBounds_toArray, List.set_cons_zero, List.set_cons_succ]))
        (refine WG.take (i := 3) (v := ?_) rfl (by kernel_rfl) (by kernel_rfl) (by kernel_rfl) (by kernel_rfl) (fun _ _ _ h => h) (Or.inl ⟨by rfl, ?_⟩) (by assumption) ?_; rotate_left; (intro w hSw; (try dsimp only at hSw); go_split_ands; go_simp; (try with_reducible rfl)); (try simp only [Act.put, List.setIfInBounds_toArray, List.set_cons_zero, List.set_cons_succ]))
        refine WG.one (i := 5) rfl (by kernel_rfl) (fun K hK => ?_)
        go_simp
        refine (iClusterCounts _ C _ (HO1.out.ext ((HE2.out.trans (HE3.out.trans (HE4.out.trans HE5.out))).trans HF7.out)) HS.out.len HS.out.flat HS.out.ids).mono ?_
        rintro e w8 ⟨v8, rfl, hO8, hE8⟩
        obtain ⟨g8, c8, rfl, hK8⟩ := counts_row hv1 hO8
        have HF8 := hid (HF7.out.trans hE8)
        have HF78 := hid hE8
        have K8 := hid hK8
        clear hO8 hE8 hK8
        (try dsimp only)
        refine hK.out _ _ (by exact And.intro (KH.out _ HF8.out) (K7.out _ HF78.out).1) (fun hHeld => ?_)
        clear hK K
        (try simp only [Act.put, List.setIfInBounds_toArray, List.set_cons_zero, List.set_cons_succ])
        refine WG.strong (fun w' => ((w'.cell? ⟨w1.heap.size, 0, none⟩ = some (.slice Ar C.room.length cr) ∧ w'.cell? ⟨w1.heap.size, 1, none⟩ = some (.slice Au C.units.length cu) ∧ w'.cell? ⟨w2.heap.size, 0, none⟩ = some (.slice A2 R.1.room.length c2) ∧ w'.cell? ⟨w2.heap.size, 1, none⟩ = some (.slice B2 R.1.units.length d2) ∧ w'.cell? ⟨w5.heap.size, 0, none⟩ = some (.slice A5 Y.1.room.length c5) ∧ w'.cell? ⟨w5.heap.size, 1, none⟩ = some (.slice B5 Y.1.units.length d5) ∧ Ext P5 w') ∧ w'.cell? ⟨g7, 0, none⟩ = some (.int .i64 (openN R.1 : Int))) ∧ w'.cell? ⟨g8, 0, none⟩ = some (.int .i64 (openN C : Int))) (fun w' h => h.1) (And.intro (And.intro (KH.out _ HF8.out) (K7.out _ HF78.out).1) (K8.out _ (Ext.refl _)).1) (fun hHeld3 => ?_)
        (refine WG.take (i := 6) (v := ?_) rfl (by kernel_rfl) (by kernel_rfl) (by kernel_rfl) (by kernel_rfl) (fun _ _ _ h => h) (Or.inl ⟨by rfl, ?_⟩) (by assumption) ?_; rotate_left; (intro w hSw; (try dsimp only at hSw); go_split_ands; go_simp; (try with_reducible rfl)); (try simp only [Act.put, List.setIfInBounds_toArray, List.set_cons_zero, List.set_cons_succ]))
        (refine WG.take (i := 7) (v := ?_) rfl (by kernel_rfl) (by kernel_rfl) (by kernel_rfl) (by kernel_rfl) (fun _ _ _ h => h) (Or.inl ⟨by rfl, ?_⟩) (by assumption) ?_; rotate_left; (intro w hSw; (try dsimp only at hSw); go_split_ands; go_simp; (try with_reducible rfl)); (try simp only [Act.put, List.setIfInBounds_toArray, List.set_cons_zero, List.set_cons_succ]))
        (refine WG.take (i := 8) (v := ?_) rfl (by kernel_rfl) (by kernel_rfl) (by kernel_rfl) (by kernel_rfl) (fun _ _ _ h => h) (Or.inl ⟨by rfl, ?_⟩) (by assumption) ?_; rotate_left; (intro w hSw; (try dsimp only at hSw); go_split_ands; go_simp; (try with_reducible rfl)); (try simp only [Act.put, List.setIfInBounds_toArray, List.set_cons_zero, List.set_cons_succ]))
        (refine WG.take (i := 9) (v := ?_) rfl (by kernel_rfl) (by kernel_rfl) (by kernel_rfl) (by kernel_rfl) (fun _ _ _ h => h) (Or.inl ⟨by rfl, ?_⟩) (by assumption) ?_; rotate_left; (intro w hSw; (try dsimp only at hSw); go_split_ands; go_simp; (try with_reducible rfl)); (try simp only [Act.put, List.setIfInBounds_toArray, List.set_cons_zero, List.set_cons_succ]))
        (refine WG.take (i := 10) rfl (by kernel_rfl) (by kernel_rfl) (by kernel_rfl) (by kernel_rfl) (fun _ _ _ h => h) (Or.inr ⟨?_, rfl⟩) (by assumption) ?_; go_simp; (try simp only [Act.put, List.setIfInBounds_toArray, List.set_cons_zero, List.set_cons_succ]))
        (refine WG.take (i := 11) rfl (by kernel_rfl) (by kernel_rfl) (by kernel_rfl) (by kernel_rfl) (fun _ _ _ h => h) (Or.inr ⟨?_, rfl⟩) (by assumption) ?_; go_simp; (try simp only [Act.put, List.setIfInBounds_toArray, List.set_cons_zero, List.set_cons_succ]))
        (refine WG.take (i := 12) rfl (by kernel_rfl) (by kernel_rfl) (by kernel_rfl) (by kernel_rfl) (fun _ _ _ h => h) (Or.inr ⟨?_, rfl⟩) (by assumption) ?_; go_simp; (try simp only [Act.put, List.setIfInBounds_toArray, List.set_cons_zero, List.set_cons_succ]))
        (refine WG.take (i := 13) (v := ?_) rfl (by kernel_rfl) (by kernel_rfl) (by kernel_rfl) (by kernel_rfl) (fun _ _ _ h => h) (Or.inl ⟨by rfl, ?_⟩) (by assumption) ?_; rotate_left; (intro w hSw; (try dsimp only at hSw); go_split_ands; go_simp; (try with_reducible rfl)); (try simp only [Act.put, List.setIfInBounds_toArray, List.set_cons_zero, List.set_cons_succ]))
        refine WG.last (i := 14) rfl (by kernel_rfl) (by kernel_rfl) (fun K hK => ?_)
        go_simp
        refine hK.out _ _ ?_
        clear hK K
        (try simp only [Act.put, List.setIfInBounds_toArray, List.set_cons_zero, List.set_cons_succ])
        refine WG.done (by kernel_rfl) ?_
        go_wp2
        go_ret
        exact ⟨rfl, HEW.out.trans ((HE2.out.trans (HE3.out.trans (HE4.out.trans HE5.out))).trans HF8.out)⟩
    · have h0' : (R.2 != 0) = true := by simpa using h0
      clear h0
      go_wp2_with (first
        | (go_at_call 35; refine (lSameCluster _ _ R.1 _ (HO2.out.ext (HE3.out.trans HE4.out)) (HO3.out.ext HE4.out)).mono ?_; rintro e w5 ⟨rfl, hE5⟩; have HE5 := hid hE5; obtain ⟨hb0, hb1, hb2, hb3⟩ := KB.out _ (HE2.out.trans (HE3.out.trans (HE4.out.trans HE5.out))); obtain ⟨p20, p21⟩ := K2.out _ (HE3.out.trans (HE4.out.trans HE5.out)); obtain ⟨p30, p31⟩ := K3.out _ (HE4.out.trans HE5.out); clear hE5)
        | (go_at_call 35; refine (lSameCluster _ _ R.1 _ (HO2.out.ext HE3.out) (HO3.out.ext (Ext.refl _))).mono ?_; rintro e w4 ⟨rfl, hE4⟩; have HE4 := hid hE4; obtain ⟨hb0, hb1, hb2, hb3⟩ := KB.out _ (HE2.out.trans (HE3.out.trans HE4.out)); obtain ⟨p20, p21⟩ := K2.out _ (HE3.out.trans HE4.out); obtain ⟨p30, p31⟩ := K3.out _ HE4.out; clear hE4)
        | (go_at_call 24; refine (sClusterArrive _ _ C x g _ (HO1.out.ext HE2.out) (HXV.out.ext HE2.out) HS.out.len HS.out.flat).mono ?_; rw [← HRR.out]; rintro e w3 ⟨v3, rfl, hO3, hE3⟩; obtain ⟨A3, c3, B3, d3, rfl⟩ := hO3.form; obtain ⟨y0, y1, y0f, y1f, k1, k1f, hkk, _⟩ := box2 (heap_alloc_new w3 (.cells #[.slice none 0 0, .slice none 0 0] 26)) (.slice A3 R.1.room.length c3) (.slice B3 R.1.units.length d3); have hx3 := Ext.alloc w3 (.cells #[.slice A3 R.1.room.length c3, .slice B3 R.1.units.length d3] 26); have hbx3 := heap_alloc_new w3 (.cells #[.slice A3 R.1.room.length c3, .slice B3 R.1.units.length d3] 26); have HO3 := hid (hO3.read.ext hx3); have HE3 := hid (hE3.trans hx3); have K3 := hid (show ∀ w', Ext (w3.alloc (.cells #[.slice A3 R.1.room.length c3, .slice B3 R.1.units.length d3] 26)) w' → w'.cell? ⟨w3.heap.size, 0, none⟩ = some (.slice A3 R.1.room.length c3) ∧ w'.cell? ⟨w3.heap.size, 1, none⟩ = some (.slice B3 R.1.units.length d3) from fun w' hw => ⟨obj_cell (hw.obj hbx3) (i := 0) rfl, obj_cell (hw.obj hbx3) (i := 1) rfl⟩); obtain ⟨hb0, hb1, hb2, hb3⟩ := KB.out _ (HE2.out.trans HE3.out); obtain ⟨p20, p21⟩ := K2.out _ HE3.out; obtain ⟨p30, p31⟩ := K3.out _ (Ext.refl _); clear hO3 hE3 hkk hx3 hbx3)
        | (go_at_call 20; refine (iClusterArrive _ C _ x g _ HO1.out HS.out.len HS.out.flat HS.out.ids HXV.out HXI.out).mono ?_; rw [← HRR.out]; rintro e w2 ⟨v2, rfl, hO2, hE2⟩; obtain ⟨A2, c2, B2, d2, rfl⟩ := hO2.form; obtain ⟨y0, y1, y0f, y1f, k1, k1f, hkk, _⟩ := box2 (heap_alloc_new w2 (.cells #[.slice none 0 0, .slice none 0 0] 26)) (.slice A2 R.1.room.length c2) (.slice B2 R.1.units.length d2); have hx2 := Ext.alloc w2 (.cells #[.slice A2 R.1.room.length c2, .slice B2 R.1.units.length d2] 26); have hbx2 := heap_alloc_new w2 (.cells #[.slice A2 R.1.room.length c2, .slice B2 R.1.units.length d2] 26); have HO2 := hid (hO2.read.ext hx2); have HE2 := hid (hE2.trans hx2); have K2 := hid (show ∀ w', Ext (w2.alloc (.cells #[.slice A2 R.1.room.length c2, .slice B2 R.1.units.length d2] 26)) w' → w'.cell? ⟨w2.heap.size, 0, none⟩ = some (.slice A2 R.1.room.length c2) ∧ w'.cell? ⟨w2.heap.size, 1, none⟩ = some (.slice B2 R.1.units.length d2) from fun w' hw => ⟨obj_cell (hw.obj hbx2) (i := 0) rfl, obj_cell (hw.obj hbx2) (i := 1) rfl⟩); obtain ⟨hb0, hb1, hb2, hb3⟩ := KB.out _ HE2.out; obtain ⟨p20, p21⟩ := K2.out _ (Ext.refl _); clear hO2 hE2 hkk hx2 hbx2))
      go_ret
      exact ⟨rfl, HEW.out.trans (HE2.out.trans (HE3.out.trans (HE4.out.trans HE5.out)))⟩
  · have i1 : (1048576 : Int) < (bs.length : Int) := by omega
    go_enter Tryz.func12, Tryz.ntmps12
    go_wp2
    go_ret
    exact ⟨rfl, Ext.refl _⟩

end Go.Proofs.YtfgibhdglbjadaaGreat
