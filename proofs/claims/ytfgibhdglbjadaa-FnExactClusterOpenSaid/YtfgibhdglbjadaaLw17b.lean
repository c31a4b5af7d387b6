/- The law FnExactClusterOpen. -/
import Derived.Test.YtfgibhdglbjadaaK22
import Derived.Test.YtfgibhdglbjadaaK23
import Derived.Test.YtfgibhdglbjadaaK7
namespace Go.Proofs.Ytfgibhdglbjadaa
open Go.RowKit
set_option maxRecDepth 4000

set_option maxHeartbeats 8000000 in
theorem lawExactOpen (cv : Value) (C : ClusD) (node : Int) (op : Bool) (w : World) (h : ClusX w cv C) (hid' : ∀ t ∈ (C.units.map (·.tasks)).flatten, IdR t.id) :
    Calls Try.prog 12 #[cv, .int .i64 node, .bool op] w (RetB w true) := by
  have h0 := h
  obtain ⟨rv, uv, rfl, hr, hu⟩ := h
  obtain ⟨Ar, cr, rfl, _⟩ := hr
  obtain ⟨Au, cu, rfl, _⟩ := hu
  obtain ⟨W, hW⟩ : ∃ W, W = w.alloc (.cells #[.slice Ar C.room.length cr, .slice Au C.units.length cu] 33) := ⟨_, rfl⟩
  have hEW : Ext w W := by rw [hW]; exact Ext.alloc _ _
  have hb0 : W.cell? ⟨w.heap.size, 0, none⟩ = some (.slice Ar C.room.length cr) := by rw [hW]; exact cell_new _ _ _ 0
  have hb1 : W.cell? ⟨w.heap.size, 1, none⟩ = some (.slice Au C.units.length cu) := by rw [hW]; exact cell_new _ _ _ 1
  have KB : Hid (∀ w', Ext W w' → w'.cell? ⟨w.heap.size, 0, none⟩ = some (.slice Ar C.room.length cr) ∧ w'.cell? ⟨w.heap.size, 1, none⟩ = some (.slice Au C.units.length cu)) := hid fun w' hw => ⟨hw.cell hb0, hw.cell hb1⟩
  have HC := hid (h0.ext hEW)
  have HEW := hid hEW
  have HIR := hid hid'
  obtain ⟨R, hR⟩ : ∃ R, R = openC C node op := ⟨_, rfl⟩
  have HRR := hid hR
  have HSR : Hid (SmallC R.1) := hid (by rw [hR]; exact (few_open C node op).small)
  have HWR := hid (small_w HSR.out)
  obtain ⟨kk, hkk⟩ : ∃ kk : Int, kk = 1 + (wClus C : Int) := ⟨_, rfl⟩
  have hkk0 : ¬ kk < 0 := by omega
  have HKK := hid hkk
  obtain ⟨mm, hmm⟩ : ∃ mm : Int, mm = 1 + (wClus R.1 : Int) := ⟨_, rfl⟩
  have hmm0 : ¬ mm < 0 := by omega
  have HMM := hid hmm
  clear h0 hEW hid' hR hkk hmm
  go_enter Try.func12, Try.ntmps12
  go_wp2_with (first
    | (go_at_call 21; rw [← hW]; refine (lSzClus _ C 1048576 _ HC.out (by omega) (by omega)).mono ?_; rintro e w1 ⟨r, rfl, hE1, hr1, hr2, hr3⟩; obtain ⟨hb0, hb1⟩ := KB.out _ hE1; have HE1 := hid hE1; have HR3 := hid hr3; clear hE1 hr3 hW)
    | (go_at_call 23; have hq := HE3.out; refine (lToClusterD _ C _ (ClusX.ext HC.out hq) (Nat.le_trans HM.out.1 (by omega)) (Nat.le_trans HM.out.2.1 (by omega)) (fun u hu => ⟨Nat.le_trans (HM.out.2.2.2 u hu).1 (by omega), fun t ht => Nat.le_trans ((HM.out.2.2.2 u hu).2 t ht) (by omega)⟩)).mono ?_; rintro e w4 ⟨v4, rfl, hD4, hE4⟩; obtain ⟨A4, c4, B4, d4, hv4⟩ := hD4.form; subst hv4; have hx := Ext.alloc w4 (.cells #[.slice A4 C.room.length c4, .slice B4 C.units.length d4] 26); have HB4 := hid (heap_alloc_new w4 (.cells #[.slice A4 C.room.length c4, .slice B4 C.units.length d4] 26)); have HD4 := hid hD4; have HX4 := hid hx; have HE4 := hid (hE4.trans hx); clear hD4 hE4 hq hx)
    | (go_at_call 23; have HM := hid (wClus_bd (C := C) (M := 1048576) (by have := HR3.out (by omega); omega)); have HWC := hid (show wClus C ≤ 1048576 by have := HR3.out (by omega); omega); refine (lToCluster _ C _ (ClusX.ext HC.out HE1.out) (Nat.le_trans HM.out.1 (by omega)) (Nat.le_trans HM.out.2.1 (by omega)) (fun u hu => ⟨Nat.le_trans (HM.out.2.2.2 u hu).1 (by omega), fun t ht => Nat.le_trans ((HM.out.2.2.2 u hu).2 t ht) (by omega)⟩)).mono ?_; rintro e w2 ⟨v2, rfl, hO2, hE2⟩; have HO2 := hid hO2.read; have HE2 := hid (HE1.out.trans hE2); clear hO2 hE2)
    | (go_at_call 39; refine (sClusterOpen _ C node op _ HO2.out (Nat.le_trans HM.out.2.1 (by omega)) (Nat.le_trans HM.out.2.2.1 (by omega))).mono ?_; rw [← HRR.out]; rintro e w3 ⟨v3, rfl, hO3, hE3⟩; obtain ⟨A3, c3, B3, d3, rfl⟩ := hO3.form; obtain ⟨y0, y1, y0f, y1f, k1, k1f, hkk, _⟩ := box2 (heap_alloc_new w3 (.cells #[.slice none 0 0, .slice none 0 0] 26)) (.slice A3 R.1.room.length c3) (.slice B3 R.1.units.length d3); have hx := Ext.alloc w3 (.cells #[.slice A3 R.1.room.length c3, .slice B3 R.1.units.length d3] 26); have HB3 := hid (heap_alloc_new w3 (.cells #[.slice A3 R.1.room.length c3, .slice B3 R.1.units.length d3] 26)); have HO3 := hid (hO3.read.ext hx); have HE3 := hid ((HE2.out.trans hE3).trans hx); obtain ⟨hb0, hb1⟩ := KB.out _ HE3.out; clear hE3 hO3 hx hkk)
    | (go_at_call 38; have hq := HE4.out; refine (iClusterOpenD _ C node op _ (HD4.out.read.ext HX4.out) (Nat.le_trans HM.out.2.1 (by omega)) (Nat.le_trans HM.out.2.2.1 (by omega)) HIR.out).mono ?_; rw [← HRR.out]; rintro e w5 ⟨v5, rfl, hO5, hE5⟩; obtain ⟨A5, c5, B5, d5, rfl⟩ := hO5.form; obtain ⟨y0, y1, y0f, y1f, k1, k1f, hkk, _⟩ := box2 (heap_alloc_new w5 (.cells #[.slice none 0 0, .slice none 0 0] 26)) (.slice A5 R.1.room.length c5) (.slice B5 R.1.units.length d5); have hx := Ext.alloc w5 (.cells #[.slice A5 R.1.room.length c5, .slice B5 R.1.units.length d5] 26); have HB5 := hid (heap_alloc_new w5 (.cells #[.slice A5 R.1.room.length c5, .slice B5 R.1.units.length d5] 26)); have HO5 := hid hO5; have HX5 := hid hx; have HE5 := hid (hE5.trans hx); clear hE5 hO5 hx hkk hq; have r0 := obj_cell ((HE4.out.trans HE5.out).obj HB3.out) (i := 0) rfl; have r1 := obj_cell ((HE4.out.trans HE5.out).obj HB3.out) (i := 1) rfl)
    | (go_at_call 26; refine (lEqClus _ _ R.1 _ (HO5.out.read.ext HX5.out) (HO3.out.ext (HE4.out.trans HE5.out))).mono ?_; rintro e w6 ⟨rfl, hE6⟩; have HE6 := hid hE6; have hx0 := obj_cell ((HE5.out.trans hE6).obj HB4.out) (i := 0) rfl; have hx1 := obj_cell ((HE5.out.trans hE6).obj HB4.out) (i := 1) rfl; obtain ⟨hb0, hb1⟩ := KB.out _ (HE3.out.trans (HE4.out.trans (HE5.out.trans hE6))); clear hE6))
  · go_ret
    exact ⟨rfl, HEW.out.trans HE1.out⟩
  · have KX : Hid (∀ w', Ext w6 w' → w'.cell? ⟨w4.heap.size, 0, none⟩ = some (.slice A4 C.room.length c4) ∧ w'.cell? ⟨w4.heap.size, 1, none⟩ = some (.slice B4 C.units.length d4) ∧ w'.cell? ⟨w.heap.size, 0, none⟩ = some (.slice Ar C.room.length cr) ∧ w'.cell? ⟨w.heap.size, 1, none⟩ = some (.slice Au C.units.length cu) ∧ Ext w6 w') := hid fun w' hw => ⟨hw.cell hx0, hw.cell hx1, hw.cell hb0, hw.cell hb1, hw⟩
    have H46 := hid (HE5.out.trans HE6.out)
    have HW6 := hid (HE3.out.trans (HE4.out.trans H46.out))
    have hD0 : Ext w6 w6.drew := Below.drew (Below.refl _ _)
    go_region_held3 (fun w' => w'.cell? ⟨w4.heap.size, 0, none⟩ = some (.slice A4 C.room.length c4) ∧ w'.cell? ⟨w4.heap.size, 1, none⟩ = some (.slice B4 C.units.length d4) ∧ w'.cell? ⟨w.heap.size, 0, none⟩ = some (.slice Ar C.room.length cr) ∧ w'.cell? ⟨w.heap.size, 1, none⟩ = some (.slice Au C.units.length cu) ∧ Ext w6 w')
      (first | exact KX.out _ (by assumption) | exact KX.out _ (Below.drew (Below.refl _ _)))
      (first
        | (go_at_call 23; refine (lToCluster _ C _ (ClusX.ext HC.out (HW6.out.trans (Below.drew (Below.refl _ _)))) (Nat.le_trans HM.out.1 (by omega)) (Nat.le_trans HM.out.2.1 (by omega)) (fun u hu => ⟨Nat.le_trans (HM.out.2.2.2 u hu).1 (by omega), fun t ht => Nat.le_trans ((HM.out.2.2.2 u hu).2 t ht) (by omega)⟩)).mono ?_; rintro e w8 ⟨v8, rfl, hO8, hE8⟩; have HO8 := hid hO8.read; have h08 : Ext w6 w8 := Ext.trans (Below.drew (Below.refl _ _)) hE8; clear hO8 hE8)
        | (go_at_call 26; refine (lEqClus _ _ C _ (HD4.out.read.ext (HX4.out.trans (H46.out.trans (by assumption)))) HO8.out).mono ?_; rintro e w9 ⟨rfl, hE9⟩; have h09 : Ext w6 w9 := Ext.trans (by assumption) hE9))
    obtain ⟨x0, x1, b0, b1, _⟩ := KX.out _ h09
    have H49 := hid (H46.out.trans h09)
    have H59 := hid (HE6.out.trans h09)
    have H39 := hid (HE4.out.trans H49.out)
    go_wp2_with (first
      | (go_at_call 27; have hq := HGb.out; refine (lMarkClusterD _ R.1 1 _ _ _ hq (Ext.refl _) (Nat.le_trans HWR.out (by omega)) (by omega) (by omega)).mono ?_; rintro e wc ⟨L2, rfl, hQc, hL2, hN2, hTc⟩; rw [← HMM.out]; have HEc : Hid (Ext (w3.alloc (.cells #[.slice A3 R.1.room.length c3, .slice B3 R.1.units.length d3] 26)) wc) := hid (Below.trans HEb.out (hTc.below (fun k hk => Nat.le_trans HE4.out.size (hL2 k hk).1) HEb.out.size)); have HBc := hid (hTc.clus hN2 HBb.out); have HQc := hid hQc; have q0 := obj_cell HBc.out (i := 0) rfl; have q1 := obj_cell HBc.out (i := 1) rfl; clear hq hQc hL2 hN2 hTc)
      | (go_at_call 27; refine (lMarkClusterD _ C 1 _ _ _ HD4.out (HX4.out.trans H49.out) (Nat.le_trans HWC.out (by omega)) (by omega) (by omega)).mono ?_; rintro e wa ⟨L, rfl, _, hL, hN, hTa⟩; rw [← HKK.out]; have HEa : Hid (Ext (w3.alloc (.cells #[.slice A3 R.1.room.length c3, .slice B3 R.1.units.length d3] 26)) wa) := hid (Below.trans H39.out (hTa.below (fun k hk => (hL k hk).1) H39.out.size)); have HGa := hid ((HO5.out.ext (HX5.out.trans H59.out)).touch hTa (fun b hb => Nat.lt_of_lt_of_le (hL b hb).2 HX4.out.size)); have HBa := hid (hTa.clus hN (H59.out.obj HB5.out)); have q0 := obj_cell HBa.out (i := 0) rfl; have q1 := obj_cell HBa.out (i := 1) rfl; have r0 := obj_cell (HEa.out.obj HB3.out) (i := 0) rfl; have r1 := obj_cell (HEa.out.obj HB3.out) (i := 1) rfl; clear hL hN hTa x0 x1 b0 b1)
      | (go_at_call 46; have hq := HEg.out; refine (lHeldClusterD _ R.1 1 _ (HQc.out.ext hq) (Nat.le_trans HWR.out (by omega)) (by omega) (by omega)).mono ?_; rintro e wh ⟨rfl, hEh⟩; rw [← HMM.out]; have HEh := hid hEh; clear hEh hq)
      | (go_at_call 46; refine (lHeldClusterD _ R.1 1 _ HQc.out (Nat.le_trans HWR.out (by omega)) (by omega) (by omega)).mono ?_; rintro e wd ⟨rfl, hEd⟩; rw [← HMM.out]; have HEd := hid hEd; obtain ⟨hb0, hb1⟩ := KB.out _ (HE3.out.trans (HEc.out.trans hEd)); clear hEd)
      | (go_at_call 23; refine (lToCluster _ C _ (ClusX.ext HC.out (HE3.out.trans (HEc.out.trans HEd.out))) (Nat.le_trans HM.out.1 (by omega)) (Nat.le_trans HM.out.2.1 (by omega)) (fun u hu => ⟨Nat.le_trans (HM.out.2.2.2 u hu).1 (by omega), fun t ht => Nat.le_trans ((HM.out.2.2.2 u hu).2 t ht) (by omega)⟩)).mono ?_; rintro e we ⟨ve, rfl, hOe, hEe⟩; have HOe := hid hOe.read; have HEe := hid (HEd.out.trans hEe); clear hOe hEe)
      | (go_at_call 38; refine (iClusterOpenD _ C node op _ (HOe.out) (Nat.le_trans HM.out.2.1 (by omega)) (Nat.le_trans HM.out.2.2.1 (by omega)) HIR.out).mono ?_; rw [← HRR.out]; rintro e wf ⟨vf, rfl, hOf, hEf⟩; obtain ⟨Af, cf, Bf, df, rfl⟩ := hOf.form; obtain ⟨y0, y1, y0f, y1f, k1, k1f, hkk, _⟩ := box2 (heap_alloc_new wf (.cells #[.slice none 0 0, .slice none 0 0] 26)) (.slice Af R.1.room.length cf) (.slice Bf R.1.units.length df); have hx := Ext.alloc wf (.cells #[.slice Af R.1.room.length cf, .slice Bf R.1.units.length df] 26); have HBf := hid (heap_alloc_new wf (.cells #[.slice Af R.1.room.length cf, .slice Bf R.1.units.length df] 26)); have HOf := hid (hOf.read.ext hx); have HEf := hid ((HEe.out.trans hEf).trans hx); clear hOf hEf hx hkk; have r0 := obj_cell ((HEc.out.trans HEf.out).obj HB3.out) (i := 0) rfl; have r1 := obj_cell ((HEc.out.trans HEf.out).obj HB3.out) (i := 1) rfl)
      | (go_at_call 26; have hq := HEf.out; refine (lEqClus _ _ R.1 _ HOf.out (HO3.out.ext (HEc.out.trans hq))).mono ?_; rintro e wg ⟨rfl, hEg⟩; have HEg := hid (hq.trans hEg); have q0 := obj_cell (HEg.out.obj HBc.out) (i := 0) rfl; have q1 := obj_cell (HEg.out.obj HBc.out) (i := 1) rfl; clear hEg hq)
      | (go_at_call 26; refine (lEqClus _ _ R.1 _ HGa.out.read (HO3.out.ext HEa.out)).mono ?_; rintro e wb ⟨rfl, hEb⟩; have HGb := hid (HGa.out.ext hEb); have HBb := hid (hEb.obj HBa.out); have HEb := hid (HEa.out.trans hEb); clear hEb; have q0 := obj_cell HBb.out (i := 0) rfl; have q1 := obj_cell HBb.out (i := 1) rfl))
    go_ret
    exact ⟨rfl, HEW.out.trans (HE3.out.trans (HEc.out.trans (HEg.out.trans HEh.out)))⟩

end Go.Proofs.Ytfgibhdglbjadaa
