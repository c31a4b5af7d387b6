/- The law FnExactScaleOut. -/
import Derived.Test.YtfgibhdglbjadaaLa5
import Derived.Test.YtfgibhdglbjadaaSc3
namespace Go.Proofs.Ytfgibhdglbjadaa
open Go.RowKit
set_option maxRecDepth 4000

set_option maxHeartbeats 4000000 in
theorem lawScaleOut (cv nv : Value) (C : ClusD) (need : List Int) (want : Int) (w : World) (h : ClusX w cv C) (hn : XI w nv need) (hid' : ∀ t ∈ (C.units.map (·.tasks)).flatten, IdR t.id) :
    Calls Try.prog 5 #[cv, nv, .int .i64 want] w (RetB w true) := by
  have h0 := h
  obtain ⟨rv, uv, rfl, hr, hu⟩ := h
  have hn0 := hn
  obtain ⟨Ar, cr, rfl, _⟩ := hr
  obtain ⟨Au, cu, rfl, _⟩ := hu
  obtain ⟨An, cn, rfl, hcn, hcn', _⟩ := hn
  obtain ⟨W, hW⟩ : ∃ W, W = w.alloc (.cells #[.slice Ar C.room.length cr, .slice Au C.units.length cu] 33) := ⟨_, rfl⟩
  have hEW : Ext w W := by rw [hW]; exact Ext.alloc _ _
  have hb0 : W.cell? ⟨w.heap.size, 0, none⟩ = some (.slice Ar C.room.length cr) := by rw [hW]; exact cell_new _ _ _ 0
  have hb1 : W.cell? ⟨w.heap.size, 1, none⟩ = some (.slice Au C.units.length cu) := by rw [hW]; exact cell_new _ _ _ 1
  have KB : Hid (∀ w', Ext W w' → w'.cell? ⟨w.heap.size, 0, none⟩ = some (.slice Ar C.room.length cr) ∧ w'.cell? ⟨w.heap.size, 1, none⟩ = some (.slice Au C.units.length cu)) := hid fun w' hw => ⟨hw.cell hb0, hw.cell hb1⟩
  have HC := hid (h0.ext hEW)
  have HN := hid (XI.ext hn0 hEW)
  have HEW := hid hEW
  clear h0 hn0 hEW
  by_cases hnl : need.length ≤ 1048576
  · go_enter Try.func5, Try.ntmps5
    go_wp2_with (first
      | (go_at_call 21; rw [← hW]; refine (lSzClus _ C 1048576 _ HC.out (by omega) (by omega)).mono ?_; rintro e w1 ⟨r, rfl, hE1, hr1, hr2, hr3⟩; obtain ⟨hb0, hb1⟩ := KB.out _ hE1; have HE1 := hid hE1; have HR3 := hid hr3; clear hE1 hr3 hW)
      | (go_at_call 23; have hq := HE4.out; refine (lToCluster _ C _ (ClusX.ext HC.out hq) (Nat.le_trans HM.out.1 (by omega)) (Nat.le_trans HM.out.2.1 (by omega)) (fun u hu => ⟨Nat.le_trans (HM.out.2.2.2 u hu).1 (by omega), fun t ht => Nat.le_trans ((HM.out.2.2.2 u hu).2 t ht) (by omega)⟩)).mono ?_; rintro e w5 ⟨v5, rfl, ⟨rc5, uc5, rfl, hOr, hOu⟩, hE5⟩; obtain ⟨Ar5, cr5, rfl, _⟩ := hOr.form; obtain ⟨Au5, cu5, rfl, _⟩ := hOu.form; have HO5 : Hid (ClusV w5 _ C) := hid ⟨_, _, rfl, hOr.read, hOu.read⟩; have HE5 := hid (hq.trans hE5); clear hOr hOu hE5 hq)
      | (go_at_call 23; have HM := hid (wClus_bd (C := C) (M := 1048576) (by have := HR3.out (by omega); omega)); refine (lToCluster _ C _ (ClusX.ext HC.out HE1.out) (Nat.le_trans HM.out.1 (by omega)) (Nat.le_trans HM.out.2.1 (by omega)) (fun u hu => ⟨Nat.le_trans (HM.out.2.2.2 u hu).1 (by omega), fun t ht => Nat.le_trans ((HM.out.2.2.2 u hu).2 t ht) (by omega)⟩)).mono ?_; rintro e w2 ⟨v2, rfl, hO2, hE2⟩; have HO2 := hid hO2.read; have HE2 := hid (HE1.out.trans hE2); clear hO2 hE2)
      | (go_at_call 31; have hq := HE5.out.trans (Ext.alloc w5 (.cells #[.slice Ar5 C.room.length cr5, .slice Au5 C.units.length cu5] 26)); refine (lToInts _ need _ (XI.ext HN.out hq) (by omega)).mono ?_; rintro e w6 ⟨v6, rfl, hO6, hE6⟩; have HO6 := hid hO6.read; have HE6 := hid (hq.trans hE6); have HC6 := hid (HO5.out.ext ((Ext.alloc _ _).trans hE6)); have hx0 := obj_cell (hE6.obj (heap_alloc_new w5 (.cells #[.slice Ar5 C.room.length cr5, .slice Au5 C.units.length cu5] 26))) (i := 0) rfl; have hx1 := obj_cell (hE6.obj (heap_alloc_new w5 (.cells #[.slice Ar5 C.room.length cr5, .slice Au5 C.units.length cu5] 26))) (i := 1) rfl; clear hO6 hE6 hq)
      | (go_at_call 31; refine (lToInts _ need _ (XI.ext HN.out HE2.out) (by omega)).mono ?_; rintro e w3 ⟨v3, rfl, hO3, hE3⟩; have HO3 := hid hO3.read; have HC3 := hid (HO2.out.ext hE3); have HE3 := hid (HE2.out.trans hE3); clear hO3 hE3)
      | (go_at_call 30; refine (sScaleOut _ _ C need want _ HC3.out HO3.out (Nat.le_trans HM.out.2.1 (by omega)) (Nat.le_trans HM.out.2.2.1 (by omega))).mono ?_; rintro e w4 ⟨rfl, hE4⟩; have HE4 := hid (HE3.out.trans hE4); obtain ⟨hb0, hb1⟩ := KB.out _ HE4.out; clear hE4)
      | (go_at_call 32; refine (iScaleOut _ _ C need want _ HC6.out HO6.out (Nat.le_trans HM.out.2.1 (by omega)) (Nat.le_trans HM.out.2.2.1 (by omega)) hid').mono ?_; rintro e w7 ⟨rfl, hE7⟩; have HE7 := hid (HE6.out.trans hE7); have KX : Hid (∀ w', Ext w7 w' → w'.cell? ⟨w5.heap.size, 0, none⟩ = some (.slice Ar5 C.room.length cr5) ∧ w'.cell? ⟨w5.heap.size, 1, none⟩ = some (.slice Au5 C.units.length cu5) ∧ w'.cell? ⟨w.heap.size, 0, none⟩ = some (.slice Ar C.room.length cr) ∧ w'.cell? ⟨w.heap.size, 1, none⟩ = some (.slice Au C.units.length cu) ∧ Ext w7 w') := hid (fun w' hw => ⟨hw.cell (hE7.cell hx0), hw.cell (hE7.cell hx1), (KB.out _ (HE7.out.trans hw)).1, (KB.out _ (HE7.out.trans hw)).2, hw⟩); have HC7 := hid (HC6.out.ext hE7); have HI7 := hid (RI.ext HO6.out hE7); clear hE7))
    · go_ret
      exact ⟨rfl, HEW.out.trans HE1.out⟩
    · go_region_held3 (fun w' => w'.cell? ⟨w5.heap.size, 0, none⟩ = some (.slice Ar5 C.room.length cr5) ∧ w'.cell? ⟨w5.heap.size, 1, none⟩ = some (.slice Au5 C.units.length cu5) ∧ w'.cell? ⟨w.heap.size, 0, none⟩ = some (.slice Ar C.room.length cr) ∧ w'.cell? ⟨w.heap.size, 1, none⟩ = some (.slice Au C.units.length cu) ∧ Ext w7 w')
        (first | exact KX.out _ (by assumption) | exact KX.out _ (Below.drew (Below.refl _ _)))
        (first
          | (go_at_call 23; refine (lToCluster _ C _ (ClusX.ext HC.out (HE7.out.trans (Below.drew (Below.refl _ _)))) (Nat.le_trans HM.out.1 (by omega)) (Nat.le_trans HM.out.2.1 (by omega)) (fun u hu => ⟨Nat.le_trans (HM.out.2.2.2 u hu).1 (by omega), fun t ht => Nat.le_trans ((HM.out.2.2.2 u hu).2 t ht) (by omega)⟩)).mono ?_; rintro e w8 ⟨v8, rfl, hO8, hE8⟩; have HO8 := hid hO8.read; have h08 : Ext w7 w8 := Ext.trans (Below.drew (Below.refl _ _)) hE8; clear hO8 hE8)
          | (go_at_call 26; refine (lEqClus _ _ C _ (HC7.out.ext (by assumption)) HO8.out).mono ?_; rintro e w9 ⟨rfl, hE9⟩; have h09 : Ext w7 w9 := Ext.trans (by assumption) hE9))
      have HE9 := hid (HE7.out.trans h09)
      have HI9 := hid (RI.ext HI7.out h09)
      go_wp2_with (first
        | (go_at_call 31; refine (lToInts _ need _ (XI.ext HN.out HE9.out) (by omega)).mono ?_; rintro e wa ⟨va, rfl, hOa, hEa⟩; have HOa := hid hOa.read; have HEa := hid hEa; clear hOa hEa)
        | (go_at_call 25; refine (lEqInts _ _ need _ (RI.ext HI9.out HEa.out) HOa.out).mono ?_; rintro e wb ⟨rfl, hEb⟩))
      go_ret
      exact ⟨rfl, HEW.out.trans (HE9.out.trans (HEa.out.trans hEb))⟩
  · have hnl' : 1048576 < need.length := by omega
    go_enter Try.func5, Try.ntmps5
    go_wp2
    go_ret
    exact ⟨rfl, by rw [← hW]; exact HEW.out⟩

end Go.Proofs.Ytfgibhdglbjadaa
