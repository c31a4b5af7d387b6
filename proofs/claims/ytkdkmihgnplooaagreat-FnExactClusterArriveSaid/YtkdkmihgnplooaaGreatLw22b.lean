/- The law FnExactClusterArrive. -/
import Derived.Test.YtkdkmihgnplooaaGreatK22
import Derived.Test.YtkdkmihgnplooaaGreatK23
import Derived.Test.YtkdkmihgnplooaaGreatK8
import Derived.Test.YtkdkmihgnplooaaGreatK2
namespace Go.Proofs.YtkdkmihgnplooaaGreat
open Go.RowKit
set_option maxRecDepth 4000

theorem clusV_same {w w' : World} {v : Value} {C : ClusD} (h : ClusV w v C) (hs : SameT (fun t => t = 66 ∨ t = 36 ∨ t = 3) w w') : ClusV w' v C :=
  let ⟨rv, uv, h1, h2, h3⟩ := h; ⟨rv, uv, h1, h2.same (hs.mono (fun _ ht => .inr (.inr ht))), h3.same hs⟩

set_option maxRecDepth 100000 in
set_option maxHeartbeats 16000000 in
theorem lawExactArrive (cv nv0 : Value) (C : ClusD) (x : TaskD) (grant : Bool) (w : World) (h : ClusX w cv C) (hid' : ∀ t ∈ (C.units.map (·.tasks)).flatten, IdR t.id) (hxv : XI w nv0 x.need) (hxi : IdR x.id) :
    Calls Tryz.prog 3 #[cv, .agg #[.int .i64 x.id, nv0], .bool grant] w (RetB w true) := by
  have h0 := h
  obtain ⟨rv, uv, rfl, hr, hu⟩ := h
  obtain ⟨Ar, cr, rfl, _⟩ := hr
  obtain ⟨Au, cu, rfl, _⟩ := hu
  have hxv0 := hxv
  obtain ⟨An, cn, rfl, _⟩ := hxv
  obtain ⟨W, hW⟩ : ∃ W, W = (w.alloc (.cells #[.slice Ar C.room.length cr, .slice Au C.units.length cu] 25)).alloc (.cells #[.int .i64 x.id, .slice An x.need.length cn] 27) := ⟨_, rfl⟩
  have hEW : Ext w W := by rw [hW]; exact (Ext.alloc _ _).trans (Ext.alloc _ _)
  have hB0 : W.heap[w.heap.size]? = some (.cells #[.slice Ar C.room.length cr, .slice Au C.units.length cu] 25 (0, 0)) := by rw [hW]; exact (Ext.alloc _ _).obj (heap_alloc_new _ _)
  have hB1 : W.heap[w.heap.size + 1]? = some (.cells #[.int .i64 x.id, .slice An x.need.length cn] 27 (0, 0)) := by rw [hW]; exact heap_new (by simp)
  have KB : Hid (∀ w', Ext W w' → w'.cell? ⟨w.heap.size, 0, none⟩ = some (.slice Ar C.room.length cr) ∧ w'.cell? ⟨w.heap.size, 1, none⟩ = some (.slice Au C.units.length cu) ∧ w'.cell? ⟨w.heap.size + 1, 0, none⟩ = some (.int .i64 x.id) ∧ w'.cell? ⟨w.heap.size + 1, 1, none⟩ = some (.slice An x.need.length cn)) := hid fun w' hw => ⟨obj_cell (hw.obj hB0) (i := 0) rfl, obj_cell (hw.obj hB0) (i := 1) rfl, obj_cell (hw.obj hB1) (i := 0) rfl, obj_cell (hw.obj hB1) (i := 1) rfl⟩
  obtain ⟨hb0, hb1, hb2, hb3⟩ := KB.out _ (Ext.refl _)
  have HC := hid (h0.ext hEW)
  have HXI := hid (XI.ext hxv0 hEW)
  have HEW := hid hEW
  have HIR := hid hid'
  have HIX := hid hxi
  obtain ⟨R, hR⟩ : ∃ R, R = arriveC C x grant := ⟨_, rfl⟩
  have HRR := hid hR
  have HSR : Hid (SmallC R.1) := hid (by rw [hR]; exact (few_arrive C x grant).small)
  have HWR := hid (small_w HSR.out)
  obtain ⟨kk, hkk⟩ : ∃ kk : Int, kk = 1 + (wClus C : Int) := ⟨_, rfl⟩
  have hkk0 : 1 ≤ kk := by omega
  have HKK := hid hkk
  obtain ⟨mm, hmm⟩ : ∃ mm : Int, mm = 1 + (wClus R.1 : Int) := ⟨_, rfl⟩
  have hmm0 : ¬ mm < 0 := by omega
  have HMM := hid hmm
  clear h0 hEW hid' hxi hR hkk hmm hB0 hB1 hxv0
  go_enter Tryz.func3, Tryz.ntmps3
  go_wp2_with (first
    | (go_at_call 4; rw [← hW]; refine (lSzClus _ C 1048576 _ HC.out (by omega) (by omega)).mono ?_; rintro e w1 ⟨r, rfl, hE1, hr1, hr2, hr3⟩; obtain ⟨hb0, hb1, hb2, hb3⟩ := KB.out _ hE1; have HE1 := hid hE1; have HR3 := hid hr3; clear hE1 hr3 hW)
    | (go_at_call 5; have hr0 : 0 ≤ r := (by omega); refine (lSzTask x (.slice An x.need.length cn) r _ (XI.ext HXI.out HE1.out) hr0 (by omega)).mono ?_; rintro e w2 ⟨r2, rfl, hE2, hs1, hs2, hs3⟩; have HS3 := hid hs3; have HE2 := hid (HE1.out.trans hE2); clear hE2 hs3))
  · go_ret
    exact ⟨rfl, HEW.out.trans HE1.out⟩
  · go_ret
    exact ⟨rfl, HEW.out.trans HE2.out⟩
  have hr2 : 0 ≤ r2 := by omega
  have hbd1 := HS3.out hr2
  have hbd2 := HR3.out (by omega)
  have HWC : Hid (wClus C ≤ 1048576) := hid (by omega)
  have HXL : Hid (x.need.length ≤ 4000000) := hid (by unfold wTask wInts at hbd1; omega)
  have hkk1 : kk ≤ 1048577 := by have := HKK.out; have := HWC.out; omega
  have hkn : ¬ kk + (x.need.length : Int) < 0 := by omega
  have HM := hid (wClus_bd (C := C) (M := 1048576) HWC.out)
  clear hbd1 hbd2 hr2
  obtain ⟨hb0, hb1, hb2, hb3⟩ := KB.out _ HE2.out
  refine join_at (fun a w' => ∃ (B8 : Nat) (A3 : Option Addr) (c3 : Nat) (B3 : Option Addr) (d3 : Nat) (z19 z20 z21 z22 z23 z24 z25 z26 z27 z28 z29 z30 z31 z32 z33 z34 z35 z36 z37 : Value), a = { tmps := #[.agg #[.slice Ar C.room.length cr, .slice Au C.units.length cu], .agg #[.int .i64 x.id, .slice An x.need.length cn], .bool grant, .pointer (some ⟨w.heap.size, 0, none⟩), .pointer (some ⟨w.heap.size + 1, 0, none⟩), undef, .bool false, .int .i64 r2, .pointer (some ⟨B8, 0, none⟩), .int .i64 R.2, undef, undef, undef, undef, undef, undef, undef, undef, undef, z19, z20, z21, z22, z23, z24, z25, z26, z27, z28, z29, z30, z31, z32, z33, z34, z35, z36, z37, undef, undef, undef, undef, undef, undef, undef, undef, undef, undef, undef, undef, undef, undef, undef, undef, undef, undef, undef, undef, undef, undef, undef, undef, undef, undef, undef, undef, undef, undef, undef, undef, undef, undef, undef, undef, undef, undef, undef, undef, undef, undef, undef, undef, undef, undef, undef, undef, undef, undef, undef, undef, undef, undef, undef, undef, undef, undef, undef, undef, undef, undef, undef, undef, undef, undef, undef, undef, undef, undef, undef, undef, undef, undef, undef, undef, undef, undef, undef, undef, undef, undef, undef, undef, undef, undef], defers := [] } ∧ w'.heap[B8]? = some (.cells #[.slice A3 R.1.room.length c3, .slice B3 R.1.units.length d3] 32 (0, 0)) ∧ ClusV w' (.agg #[.slice A3 R.1.room.length c3, .slice B3 R.1.units.length d3]) R.1 ∧ w2.heap.size ≤ B8 ∧ Ext w2 w') (fun JP hJP => ?_) ?_
  rotate_left
  · rintro a V3 ⟨B8, A3, c3, B3, d3, z19, z20, z21, z22, z23, z24, z25, z26, z27, z28, z29, z30, z31, z32, z33, z34, z35, z36, z37, rfl, j8, jC, jl8, jE⟩
    have HB3 := hid j8
    have HO3 := hid jC
    have HE3 := hid (HE2.out.trans jE)
    obtain ⟨hb0, hb1, hb2, hb3⟩ := KB.out _ HE3.out
    have TKB : Hid True := hid trivial
    clear j8 jC jE jl8
    go_wp2_with (first
      | (have _t := TKB; go_at_call 7; have hq := HE3.out; refine (lToClusterD _ C _ (ClusX.ext HC.out hq) (Nat.le_trans HM.out.1 (by omega)) (Nat.le_trans HM.out.2.1 (by omega)) (fun u hu => ⟨Nat.le_trans (HM.out.2.2.2 u hu).1 (by omega), fun t ht => Nat.le_trans ((HM.out.2.2.2 u hu).2 t ht) (by omega)⟩)).mono ?_; rintro e w4 ⟨v4, rfl, hD4, hE4⟩; obtain ⟨A4, c4, B4, d4, hv4⟩ := hD4.form; subst hv4; have hx := Ext.alloc w4 (.cells #[.slice A4 C.room.length c4, .slice B4 C.units.length d4] 32); have HB4 := hid (heap_alloc_new w4 (.cells #[.slice A4 C.room.length c4, .slice B4 C.units.length d4] 32)); have HD4 := hid hD4; have HX4 := hid hx; have HE4 := hid (hE4.trans hx); obtain ⟨hb0, hb1, hb2, hb3⟩ := KB.out _ (HE3.out.trans HE4.out); clear hD4 hE4 hq hx)
      | (go_at_call 8; refine (lToTask x (.slice An x.need.length cn) _ (XI.ext HXI.out (HE3.out.trans HE4.out)) HXL.out).mono ?_; rintro e wt ⟨vt, rfl, hOt, hEt⟩; obtain ⟨At, ct, hvt, _⟩ := hOt.form; subst hvt; have hx := Ext.alloc wt (.cells #[.int .i64 x.id, .slice At x.need.length ct] 36); have HBt := hid (heap_alloc_new wt (.cells #[.int .i64 x.id, .slice At x.need.length ct] 36)); have HOt := hid hOt; have HXt := hid hx; have HEta := hid hEt.size; have HEt := hid (hEt.trans hx); have x0 := obj_cell (HEt.out.obj HB4.out) (i := 0) rfl; have x1 := obj_cell (HEt.out.obj HB4.out) (i := 1) rfl; clear hOt hEt hx)
      | (go_at_call 9; refine (iClusterArriveD _ C _ x grant _ (HD4.out.read.ext (HX4.out.trans HEt.out)) (Nat.le_trans HM.out.2.1 (by omega)) (Nat.le_trans HM.out.2.2.1 (by omega)) HIR.out ⟨_, rfl, RI.ext HOt.out.read HXt.out⟩ HIX.out).mono ?_; rw [← HRR.out]; rintro e w5 ⟨v5, rfl, hO5, hE5⟩; obtain ⟨A5, c5, B5, d5, rfl⟩ := hO5.form; obtain ⟨y0, y1, y0f, y1f, k1, k1f, hkk, _⟩ := box2 (heap_alloc_new w5 (.cells #[.slice none 0 0, .slice none 0 0] 32)) (.slice A5 R.1.room.length c5) (.slice B5 R.1.units.length d5); have hx := Ext.alloc w5 (.cells #[.slice A5 R.1.room.length c5, .slice B5 R.1.units.length d5] 32); have HB5 := hid (heap_alloc_new w5 (.cells #[.slice A5 R.1.room.length c5, .slice B5 R.1.units.length d5] 32)); have HO5 := hid hO5; have HX5 := hid hx; have HE5 := hid (hE5.trans hx); have HE5a := hid hE5; clear hE5 hO5 hx hkk x0 x1; have r0 := obj_cell ((HE4.out.trans (HEt.out.trans HE5.out)).obj HB3.out) (i := 0) rfl; have r1 := obj_cell ((HE4.out.trans (HEt.out.trans HE5.out)).obj HB3.out) (i := 1) rfl)
      | (go_at_call 10; refine (lEqClus _ _ R.1 _ (HO5.out.read.ext HX5.out) (HO3.out.ext (HE4.out.trans (HEt.out.trans HE5.out)))).mono ?_; rintro e w6 ⟨rfl, hE6⟩; have HE6 := hid hE6; have hx0 := obj_cell ((HEt.out.trans (HE5.out.trans hE6)).obj HB4.out) (i := 0) rfl; have hx1 := obj_cell ((HEt.out.trans (HE5.out.trans hE6)).obj HB4.out) (i := 1) rfl; have ht0 := obj_cell ((HE5.out.trans hE6).obj HBt.out) (i := 0) rfl; have ht1 := obj_cell ((HE5.out.trans hE6).obj HBt.out) (i := 1) rfl; obtain ⟨hb0, hb1, hb2, hb3⟩ := KB.out _ (HE3.out.trans (HE4.out.trans (HEt.out.trans (HE5.out.trans HE6.out)))); clear hE6))
    have KX : Hid (∀ w', Ext w6 w' → w'.cell? ⟨w4.heap.size, 0, none⟩ = some (.slice A4 C.room.length c4) ∧ w'.cell? ⟨w4.heap.size, 1, none⟩ = some (.slice B4 C.units.length d4) ∧ w'.cell? ⟨w.heap.size, 0, none⟩ = some (.slice Ar C.room.length cr) ∧ w'.cell? ⟨w.heap.size, 1, none⟩ = some (.slice Au C.units.length cu) ∧ Ext w6 w') := hid fun w' hw => ⟨hw.cell hx0, hw.cell hx1, hw.cell hb0, hw.cell hb1, hw⟩
    have KT : Hid (∀ w', Ext w6 w' → w'.cell? ⟨wt.heap.size, 0, none⟩ = some (.int .i64 x.id) ∧ w'.cell? ⟨wt.heap.size, 1, none⟩ = some (.slice At x.need.length ct) ∧ w'.cell? ⟨w.heap.size + 1, 0, none⟩ = some (.int .i64 x.id) ∧ w'.cell? ⟨w.heap.size + 1, 1, none⟩ = some (.slice An x.need.length cn)) := hid fun w' hw => ⟨hw.cell ht0, hw.cell ht1, hw.cell hb2, hw.cell hb3⟩
    have H46 := hid (HEt.out.trans (HE5.out.trans HE6.out))
    have HW6 := hid (HE3.out.trans (HE4.out.trans H46.out))
    have hD0 : Ext w6 w6.drew := Below.drew (Below.refl _ _)
    go_region_held3 (fun w' => w'.cell? ⟨w4.heap.size, 0, none⟩ = some (.slice A4 C.room.length c4) ∧ w'.cell? ⟨w4.heap.size, 1, none⟩ = some (.slice B4 C.units.length d4) ∧ w'.cell? ⟨w.heap.size, 0, none⟩ = some (.slice Ar C.room.length cr) ∧ w'.cell? ⟨w.heap.size, 1, none⟩ = some (.slice Au C.units.length cu) ∧ Ext w6 w')
      (first | exact KX.out _ (by assumption) | exact KX.out _ (Below.drew (Below.refl _ _)))
      (first
        | (go_at_call 7; refine (lToCluster _ C _ (ClusX.ext HC.out (HW6.out.trans (Below.drew (Below.refl _ _)))) (Nat.le_trans HM.out.1 (by omega)) (Nat.le_trans HM.out.2.1 (by omega)) (fun u hu => ⟨Nat.le_trans (HM.out.2.2.2 u hu).1 (by omega), fun t ht => Nat.le_trans ((HM.out.2.2.2 u hu).2 t ht) (by omega)⟩)).mono ?_; rintro e w8 ⟨v8, rfl, hO8, hE8⟩; have HO8 := hid hO8.read; have h08 : Ext w6 w8 := Ext.trans (Below.drew (Below.refl _ _)) hE8; clear hO8 hE8)
        | (go_at_call 10; refine (lEqClus _ _ C _ (HD4.out.read.ext (HX4.out.trans (H46.out.trans (by assumption)))) HO8.out).mono ?_; rintro e w9 ⟨rfl, hE9⟩; have h09 : Ext w6 w9 := Ext.trans (by assumption) hE9))
    obtain ⟨x0, x1, b0, b1, _⟩ := KX.out _ h09
    obtain ⟨t0, t1, b2, b3⟩ := KT.out _ h09
    have H69 := hid h09
    clear hx0 hx1 ht0 ht1 hb0 hb1 hb2 hb3 hD0 h08 h09
    go_wp2
    have KY : Hid (∀ w', Ext w9 w' → w'.cell? ⟨wt.heap.size, 0, none⟩ = some (.int .i64 x.id) ∧ w'.cell? ⟨wt.heap.size, 1, none⟩ = some (.slice At x.need.length ct) ∧ w'.cell? ⟨w.heap.size + 1, 0, none⟩ = some (.int .i64 x.id) ∧ w'.cell? ⟨w.heap.size + 1, 1, none⟩ = some (.slice An x.need.length cn) ∧ Ext w9 w') := hid fun w' hw => ⟨hw.cell t0, hw.cell t1, hw.cell b2, hw.cell b3, hw⟩
    have hD1 : Ext w9 w9.drew := Below.drew (Below.refl _ _)
    go_region_held3 (fun w' => w'.cell? ⟨wt.heap.size, 0, none⟩ = some (.int .i64 x.id) ∧ w'.cell? ⟨wt.heap.size, 1, none⟩ = some (.slice At x.need.length ct) ∧ w'.cell? ⟨w.heap.size + 1, 0, none⟩ = some (.int .i64 x.id) ∧ w'.cell? ⟨w.heap.size + 1, 1, none⟩ = some (.slice An x.need.length cn) ∧ Ext w9 w')
      (first | exact KY.out _ (by assumption) | exact KY.out _ (Below.drew (Below.refl _ _)))
      (first
        | (go_at_call 8; refine (lToTask x (.slice An x.need.length cn) _ (XI.ext HXI.out (HW6.out.trans (H69.out.trans (Below.drew (Below.refl _ _))))) HXL.out).mono ?_; rintro e w10 ⟨v10, rfl, hO10, hE10⟩; have HO10 := hid hO10.read; have h910 : Ext w9 w10 := Ext.trans (Below.drew (Below.refl _ _)) hE10; clear hO10 hE10)
        | (go_at_call 11; refine (lEqTask x _ _ _ (RI.ext HOt.out.read (HXt.out.trans (HE5.out.trans (HE6.out.trans (H69.out.trans (by assumption)))))) HO10.out).mono ?_; rintro e wn ⟨rfl, hE11⟩; have h9n : Ext w9 wn := Ext.trans (by assumption) hE11))
    have H6n := hid (H69.out.trans h9n)
    have H5n := hid (HE6.out.trans H6n.out)
    have Htn := hid (HE5.out.trans H5n.out)
    have H4n := hid (HEt.out.trans Htn.out)
    have H3n := hid (HE4.out.trans H4n.out)
    obtain ⟨x0, x1, b0, b1, _⟩ := KX.out _ H6n.out
    have TM0 : Hid True := hid trivial
    clear t0 t1 b2 b3 hD1 h910 h9n
    go_wp2_with (first
      | (go_at_call 14; clear TM4; refine (lHeldClusterD _ R.1 1 _ HQc.out (Nat.le_trans HWR.out (by omega)) (by omega) (by omega)).mono ?_; rintro e wd ⟨rfl, hEd⟩; rw [← HMM.out]; have HEd := hid hEd; obtain ⟨hb0, hb1, hb2, hb3⟩ := KB.out _ (HE3.out.trans (HEc.out.trans hEd)); clear hEd)
      | (go_at_call 12; clear TM3; have hq := HGb.out; refine (lMarkClusterD _ R.1 1 _ _ _ hq (Ext.refl _) (Nat.le_trans HWR.out (by omega)) (by omega) (by omega)).mono ?_; rintro e wc ⟨L2, rfl, hQc, hL2, hN2, hTc⟩; rw [← HMM.out]; have HEc : Hid (Ext V3 wc) := hid (Below.trans HEb.out (hTc.below (fun k hk => Nat.le_trans (HE4.out.trans HEt.out).size (hL2 k hk).1) HEb.out.size)); have HBc := hid (hTc.clus hN2 HBb.out); have HQc := hid hQc; have TM4 : Hid True := hid trivial; have q0 := obj_cell HBc.out (i := 0) rfl; have q1 := obj_cell HBc.out (i := 1) rfl; clear hq hQc hL2 hN2 hTc)
      | (go_at_call 10; clear TM2; refine (lEqClus _ _ R.1 _ HGm.out.read (HO3.out.ext HEm.out)).mono ?_; rintro e wb ⟨rfl, hEb⟩; have HGb := hid (HGm.out.ext hEb); have HBb := hid (hEb.obj HBm.out); have HEb := hid (HEm.out.trans hEb); have TM3 : Hid True := hid trivial; clear hEb; have q0 := obj_cell HBb.out (i := 0) rfl; have q1 := obj_cell HBb.out (i := 1) rfl)
      | (go_at_call 13; clear TM1; refine (lMarkTask x.id At x.need.length ct x.need kk _ _ HOta.out (Nat.le_trans H4n.out.size Hna.out) HXL.out (by omega) (by omega)).mono ?_; rintro e wm ⟨rfl, hTm⟩; have HLm : Hid (∀ g ∈ (Value.slice At x.need.length ct).ownBlock.toList, (w4.alloc (.cells #[.slice A4 C.room.length c4, .slice B4 C.units.length d4] 32)).heap.size ≤ g ∧ g < wt.heap.size) := hid (fun g hg => Own.lt HOt.out g (by simpa using hg)); have HEm : Hid (Ext V3 wm) := hid (Below.trans HEa.out (hTm.below (fun g hg => Nat.le_trans HE4.out.size (HLm.out g hg).1) HEa.out.size)); have HGm := hid (HGa.out.touch hTm (fun b hb => by have h1 := (HLm.out b hb).2; have h2 := HXt.out.size; omega)); have HBm := hid ((hTm.block _ (obj_lt HBa.out) (fun hm => by have h1 := (HLm.out _ hm).2; have h2 := HXt.out.size; have h3 := HE5a.out.size; omega)).trans HBa.out); have q0 := obj_cell HBm.out (i := 0) rfl; have q1 := obj_cell HBm.out (i := 1) rfl; have r0 := obj_cell (HEm.out.obj HB3.out) (i := 0) rfl; have r1 := obj_cell (HEm.out.obj HB3.out) (i := 1) rfl; have TM2 : Hid True := hid trivial; clear hTm t0 t1)
      | (go_at_call 12; clear TM0; refine (lMarkClusterD _ C 1 _ _ _ HD4.out (HX4.out.trans H4n.out) (Nat.le_trans HWC.out (by omega)) (by omega) (by omega)).mono ?_; rintro e wa ⟨L, rfl, _, hL, hN, hTa⟩; rw [← HKK.out]; have Hna := hid hTa.size; have HEa : Hid (Ext V3 wa) := hid (Below.trans H3n.out (hTa.below (fun k hk => (hL k hk).1) H3n.out.size)); have hnt : wt.heap.size ∉ L := (fun hm => by have h1 := (hL _ hm).2; have h2 := HX4.out.size; have h3 := HEta.out; omega); have HGa := hid ((HO5.out.ext (HX5.out.trans H5n.out)).touch hTa (fun b hb => by have h1 := (hL b hb).2; have h2 := HX4.out.size; have h3 := HEt.out.size; omega)); have HBa := hid (hTa.clus hN (H5n.out.obj HB5.out)); have HBta := hid ((hTa.block _ (obj_lt (Htn.out.obj HBt.out)) hnt).trans (Htn.out.obj HBt.out)); have HOta : Hid (OI wa (w4.alloc (.cells #[.slice A4 C.room.length c4, .slice B4 C.units.length d4] 32)).heap.size (.slice At x.need.length ct) x.need) := hid (Own.far (Own.ext EI.ok HOt.out (HXt.out.trans Htn.out)) (fun g hg => hTa.block g (Nat.lt_of_lt_of_le (Own.lt HOt.out g hg).2 (HXt.out.trans Htn.out).size) (fun hm => by have h1 := (hL g hm).2; have h2 := HX4.out.size; have h3 := (Own.lt HOt.out g hg).1; omega)) (fun _ _ _ he => he)); have t0 := obj_cell HBta.out (i := 0) rfl; have t1 := obj_cell HBta.out (i := 1) rfl; have q0 := obj_cell HBa.out (i := 0) rfl; have q1 := obj_cell HBa.out (i := 1) rfl; have r0 := obj_cell (HEa.out.obj HB3.out) (i := 0) rfl; have r1 := obj_cell (HEa.out.obj HB3.out) (i := 1) rfl; have TM1 : Hid True := hid trivial; clear hL hN hTa hnt x0 x1 b0 b1))
    have HED := hid (HE3.out.trans (HEc.out.trans HEd.out))
    have KS : Hid (∀ w', Ext wd w' → w'.cell? ⟨w.heap.size, 0, none⟩ = some (.slice Ar C.room.length cr) ∧ w'.cell? ⟨w.heap.size, 1, none⟩ = some (.slice Au C.units.length cu) ∧ w'.cell? ⟨w.heap.size + 1, 0, none⟩ = some (.int .i64 x.id) ∧ w'.cell? ⟨w.heap.size + 1, 1, none⟩ = some (.slice An x.need.length cn)) := hid fun w' hw => KB.out _ (HED.out.trans hw)
    have HD : Hid (Ext wd wd.drew) := hid (Below.drew (Below.refl _ _))
    refine WG.start (fun w' => w'.cell? ⟨w.heap.size, 0, none⟩ = some (.slice Ar C.room.length cr) ∧ w'.cell? ⟨w.heap.size, 1, none⟩ = some (.slice Au C.units.length cu) ∧ w'.cell? ⟨w.heap.size + 1, 0, none⟩ = some (.int .i64 x.id) ∧ w'.cell? ⟨w.heap.size + 1, 1, none⟩ = some (.slice An x.need.length cn)) [7,8,10,11] (by kernel_rfl) (by exact KS.out _ HD.out) (fun hHeld => ?_)
    obtain ⟨pz, hpz⟩ : ∃ x, x = wd.drew := ⟨_, rfl⟩
    rw [← hpz] at hHeld ⊢
    have HX : Hid (Ext wd pz) := hid (by rw [hpz]; exact HD.out)
    clear hpz
    (refine WG.take (i := 0) (v := ?_) rfl (by kernel_rfl) (by kernel_rfl) (by kernel_rfl) (by kernel_rfl) (fun _ _ _ h => h) (Or.inl ⟨by rfl, ?_⟩) (by assumption) ?_; rotate_left; (intro w hSw; (try dsimp only at hSw); go_split_ands; go_simp; (try with_reducible rfl)); (try simp only [Act.put, List.setIfInBounds_toArray, List.set_cons_zero, List.set_cons_succ]))
    (refine WG.take (i := 2) (v := ?_) rfl (by kernel_rfl) (by kernel_rfl) (by kernel_rfl) (by kernel_rfl) (fun _ _ _ h => h) (Or.inl ⟨by rfl, ?_⟩) (by assumption) ?_; rotate_left; (intro w hSw; (try dsimp only at hSw); go_split_ands; go_simp; (try with_reducible rfl)); (try simp only [Act.put, List.setIfInBounds_toArray, List.set_cons_zero, List.set_cons_succ]))
    (refine WG.take (i := 4) (v := ?_) rfl (by kernel_rfl) (by kernel_rfl) (by kernel_rfl) (by kernel_rfl) (fun _ _ _ h => h) (Or.inl ⟨by rfl, ?_⟩) (by assumption) ?_; rotate_left; (intro w hSw; (try dsimp only at hSw); go_split_ands; go_simp; (try with_reducible rfl)); (try simp only [Act.put, List.setIfInBounds_toArray, List.set_cons_zero, List.set_cons_succ]))
    refine WG.two (i := 1) (j := 9) rfl rfl (by kernel_rfl) (fun K hK => ?_) (fun K hK => ?_)
    · go_simp
      refine (lToCluster _ C _ (ClusX.ext HC.out (HED.out.trans HX.out)) (Nat.le_trans HM.out.1 (by omega)) (Nat.le_trans HM.out.2.1 (by omega)) (fun u hu => ⟨Nat.le_trans (HM.out.2.2.2 u hu).1 (by omega), fun t ht => Nat.le_trans ((HM.out.2.2.2 u hu).2 t ht) (by omega)⟩)).mono ?_
      rintro e p1 ⟨vc, rfl, hOc, hE⟩
      have HOc := hid hOc.read
      clear hOc
      (try dsimp only)
      have HX := hid (HX.out.trans hE)
      refine hK.out _ _ (by exact KS.out _ HX.out) (fun hHeld => ?_)
      clear hK K hE
      (try simp only [Act.put, List.setIfInBounds_toArray, List.set_cons_zero, List.set_cons_succ])
      refine WG.two (i := 3) (j := 9) rfl rfl (by kernel_rfl) (fun K hK => ?_) (fun K hK => ?_)
      · go_simp
        refine (lToTask x (.slice An x.need.length cn) _ (XI.ext HXI.out (HED.out.trans HX.out)) HXL.out).mono ?_
        rintro e p2 ⟨vt, rfl, hOt, hE⟩
        have HOt : Hid (TaskV p2 (.agg #[.int .i64 x.id, vt]) x) := hid ⟨_, rfl, hOt.read⟩
        clear hOt
        (try dsimp only)
        have HX := hid (HX.out.trans hE)
        have HOc := hid (HOc.out.ext hE)
        refine hK.out _ _ (by exact KS.out _ HX.out) (fun hHeld => ?_)
        clear hK K hE
        (try simp only [Act.put, List.setIfInBounds_toArray, List.set_cons_zero, List.set_cons_succ])
        refine WG.two (i := 5) (j := 9) rfl rfl (by kernel_rfl) (fun K hK => ?_) (fun K hK => ?_)
        · go_simp
          refine (iClusterArriveD _ C _ x grant _ HOc.out (Nat.le_trans HM.out.2.1 (by omega)) (Nat.le_trans HM.out.2.2.1 (by omega)) HIR.out HOt.out HIX.out).mono ?_
          rw [← HRR.out]
          rintro e p3 ⟨vr, rfl, hOr, hE⟩
          obtain ⟨Ah, ch, Bhh, dh, rfl⟩ := hOr.form
          have HOr := hid hOr.read
          clear hOr
          (try dsimp only)
          have HX := hid (HX.out.trans hE)
          have HOc := hid (HOc.out.ext hE)
          have HOt := hid (HOt.out.ext hE)
          refine hK.out _ _ (by exact KS.out _ HX.out) (fun hHeld => ?_)
          clear hK K hE
          (try simp only [Act.put, List.setIfInBounds_toArray, List.set_cons_zero, List.set_cons_succ])
          (refine WG.take (i := 6) (v := ?_) rfl (by kernel_rfl) (by kernel_rfl) (by kernel_rfl) (by kernel_rfl) (fun _ _ _ h => h) (Or.inl ⟨by rfl, ?_⟩) (by assumption) ?_; rotate_left; (intro w hSw; (try dsimp only at hSw); go_split_ands; go_simp; (try with_reducible rfl)); (try simp only [Act.put, List.setIfInBounds_toArray, List.set_cons_zero, List.set_cons_succ]))
          (refine WG.takeP (i := 7) (v := ?_) rfl (by kernel_rfl) (by kernel_rfl) (by kernel_rfl) (by kernel_rfl) (fun _ _ _ h => h) (Or.inl ⟨by rfl, ?_⟩) ?_; rotate_left; (intro w hSw; clear hSw; go_simp; (try with_reducible rfl)); (try simp only [Act.put, List.setIfInBounds_toArray, List.set_cons_zero, List.set_cons_succ]))
          (refine WG.takeP (i := 8) (v := ?_) rfl (by kernel_rfl) (by kernel_rfl) (by kernel_rfl) (by kernel_rfl) (fun _ _ _ h => h) (Or.inl ⟨by rfl, ?_⟩) ?_; rotate_left; (intro w hSw; clear hSw; go_simp; (try with_reducible rfl)); (try simp only [Act.put, List.setIfInBounds_toArray, List.set_cons_zero, List.set_cons_succ]))
          refine WG.one (i := 9) rfl (by kernel_rfl) (fun K hK => ?_)
          go_simp
          refine hK.out _ _ (by exact KS.out _ (HX.out.trans (Ext.alloc _ _))) (fun hHeld => ?_)
          clear hK K
          (try simp only [Act.put, List.setIfInBounds_toArray, List.set_cons_zero, List.set_cons_succ])
          obtain ⟨p4, hp4⟩ : ∃ x, x = p3.alloc (.cells #[.slice none 0 0, .slice none 0 0] 32) := ⟨_, rfl⟩
          obtain ⟨Bh, hBh⟩ : ∃ x, x = p3.heap.size := ⟨_, rfl⟩
          have hE : Ext p3 p4 := by rw [hp4]; exact Ext.alloc _ _
          have HBh : Hid (p4.heap[Bh]? = some (.cells #[.slice none 0 0, .slice none 0 0] 32 (0, 0))) := hid (by rw [hp4, hBh]; exact heap_alloc_new _ _)
          have HLh : Hid (wd.heap.size ≤ Bh) := hid (by rw [hBh]; exact HX.out.size)
          rw [← hp4] at hHeld ⊢
          rw [← hBh]
          have HX := hid (HX.out.trans hE)
          have HOc := hid (HOc.out.ext hE)
          have HOt := hid (HOt.out.ext hE)
          have HOr := hid (HOr.out.ext hE)
          clear hp4 hBh hE
          obtain ⟨y0, y1, y0f, y1f, k1, k1f, hkk, hsm⟩ := box2 HBh.out (.slice Ah R.1.room.length ch) (.slice Bhh R.1.units.length dh)
          refine WG.last (i := 10) rfl (by kernel_rfl) (by kernel_rfl) (fun K hK => ?_)
          go_simp
          refine hK.out _ _ ?_
          clear hK K
          (try simp only [Act.put, List.setIfInBounds_toArray, List.set_cons_zero, List.set_cons_succ])
          refine WG.last (i := 11) rfl (by kernel_rfl) (by kernel_rfl) (fun K hK => ?_)
          go_simp
          refine hK.out _ _ ?_
          clear hK K
          (try simp only [Act.put, List.setIfInBounds_toArray, List.set_cons_zero, List.set_cons_succ])
          refine WG.done (by kernel_rfl) ?_
          have HOh := hid (clusV_same HOr.out (hsm _ notClus))
          have HEh : Hid (Ext wd _) := hid (Below.setCell (Below.setCell HX.out HLh.out (p := ⟨Bh, 0, none⟩) (.slice Ah R.1.room.length ch)) HLh.out (p := ⟨Bh, 1, none⟩) (.slice Bhh R.1.units.length dh))
          have h0 := obj_cell hkk (i := 0) rfl
          have h1 := obj_cell hkk (i := 1) rfl
          have r0 := obj_cell ((HEc.out.trans (HEd.out.trans HEh.out)).obj HB3.out) (i := 0) rfl
          have r1 := obj_cell ((HEc.out.trans (HEd.out.trans HEh.out)).obj HB3.out) (i := 1) rfl
          clear hkk hsm y0 y1 y0f y1f k1 k1f q0 q1
          go_wp2_with (first
            | (go_at_call 10; refine (lEqClus _ _ R.1 _ HOh.out (HO3.out.ext (HEc.out.trans (HEd.out.trans HEh.out)))).mono ?_; rintro e wg ⟨rfl, hEg⟩; have HEg := hid (HEh.out.trans hEg); have q0 := obj_cell ((HEd.out.trans HEg.out).obj HBc.out) (i := 0) rfl; have q1 := obj_cell ((HEd.out.trans HEg.out).obj HBc.out) (i := 1) rfl; clear hEg)
            | (go_at_call 14; refine (lHeldClusterD _ R.1 1 _ (HQc.out.ext (HEd.out.trans HEg.out)) (Nat.le_trans HWR.out (by omega)) (by omega) (by omega)).mono ?_; rintro e wh ⟨rfl, hEh⟩; rw [← HMM.out]; have HEhh := hid hEh; clear hEh))
          go_ret
          exact ⟨rfl, HEW.out.trans (HED.out.trans (HEg.out.trans HEhh.out))⟩
        · go_simp
          refine hK.out _ _ (by exact KS.out _ (HX.out.trans (Ext.alloc _ _))) (fun hHeld => ?_)
          clear hK K
          (try simp only [Act.put, List.setIfInBounds_toArray, List.set_cons_zero, List.set_cons_succ])
          obtain ⟨p5, hp5⟩ : ∃ x, x = p2.alloc (.cells #[.slice none 0 0, .slice none 0 0] 32) := ⟨_, rfl⟩
          obtain ⟨Bh, hBh⟩ : ∃ x, x = p2.heap.size := ⟨_, rfl⟩
          have hE : Ext p2 p5 := by rw [hp5]; exact Ext.alloc _ _
          have HBh : Hid (p5.heap[Bh]? = some (.cells #[.slice none 0 0, .slice none 0 0] 32 (0, 0))) := hid (by rw [hp5, hBh]; exact heap_alloc_new _ _)
          have HLh : Hid (wd.heap.size ≤ Bh) := hid (by rw [hBh]; exact HX.out.size)
          rw [← hp5] at hHeld ⊢
          rw [← hBh]
          have HX := hid (HX.out.trans hE)
          have HOc := hid (HOc.out.ext hE)
          have HOt := hid (HOt.out.ext hE)
          clear hp5 hBh hE
          refine WG.one (i := 5) rfl (by kernel_rfl) (fun K hK => ?_)
          go_simp
          refine (iClusterArriveD _ C _ x grant _ HOc.out (Nat.le_trans HM.out.2.1 (by omega)) (Nat.le_trans HM.out.2.2.1 (by omega)) HIR.out HOt.out HIX.out).mono ?_
          rw [← HRR.out]
          rintro e p6 ⟨vr, rfl, hOr, hE⟩
          obtain ⟨Ah, ch, Bhh, dh, rfl⟩ := hOr.form
          have HOr := hid hOr.read
          clear hOr
          (try dsimp only)
          have HX := hid (HX.out.trans hE)
          have HBh := hid (hE.obj HBh.out)
          have HOc := hid (HOc.out.ext hE)
          have HOt := hid (HOt.out.ext hE)
          refine hK.out _ _ (by exact KS.out _ HX.out) (fun hHeld => ?_)
          clear hK K hE
          (try simp only [Act.put, List.setIfInBounds_toArray, List.set_cons_zero, List.set_cons_succ])
          (refine WG.take (i := 6) (v := ?_) rfl (by kernel_rfl) (by kernel_rfl) (by kernel_rfl) (by kernel_rfl) (fun _ _ _ h => h) (Or.inl ⟨by rfl, ?_⟩) (by assumption) ?_; rotate_left; (intro w hSw; (try dsimp only at hSw); go_split_ands; go_simp; (try with_reducible rfl)); (try simp only [Act.put, List.setIfInBounds_toArray, List.set_cons_zero, List.set_cons_succ]))
          (refine WG.takeP (i := 7) (v := ?_) rfl (by kernel_rfl) (by kernel_rfl) (by kernel_rfl) (by kernel_rfl) (fun _ _ _ h => h) (Or.inl ⟨by rfl, ?_⟩) ?_; rotate_left; (intro w hSw; clear hSw; go_simp; (try with_reducible rfl)); (try simp only [Act.put, List.setIfInBounds_toArray, List.set_cons_zero, List.set_cons_succ]))
          (refine WG.takeP (i := 8) (v := ?_) rfl (by kernel_rfl) (by kernel_rfl) (by kernel_rfl) (by kernel_rfl) (fun _ _ _ h => h) (Or.inl ⟨by rfl, ?_⟩) ?_; rotate_left; (intro w hSw; clear hSw; go_simp; (try with_reducible rfl)); (try simp only [Act.put, List.setIfInBounds_toArray, List.set_cons_zero, List.set_cons_succ]))
          obtain ⟨y0, y1, y0f, y1f, k1, k1f, hkk, hsm⟩ := box2 HBh.out (.slice Ah R.1.room.length ch) (.slice Bhh R.1.units.length dh)
          refine WG.last (i := 10) rfl (by kernel_rfl) (by kernel_rfl) (fun K hK => ?_)
          go_simp
          refine hK.out _ _ ?_
          clear hK K
          (try simp only [Act.put, List.setIfInBounds_toArray, List.set_cons_zero, List.set_cons_succ])
          refine WG.last (i := 11) rfl (by kernel_rfl) (by kernel_rfl) (fun K hK => ?_)
          go_simp
          refine hK.out _ _ ?_
          clear hK K
          (try simp only [Act.put, List.setIfInBounds_toArray, List.set_cons_zero, List.set_cons_succ])
          refine WG.done (by kernel_rfl) ?_
          have HOh := hid (clusV_same HOr.out (hsm _ notClus))
          have HEh : Hid (Ext wd _) := hid (Below.setCell (Below.setCell HX.out HLh.out (p := ⟨Bh, 0, none⟩) (.slice Ah R.1.room.length ch)) HLh.out (p := ⟨Bh, 1, none⟩) (.slice Bhh R.1.units.length dh))
          have h0 := obj_cell hkk (i := 0) rfl
          have h1 := obj_cell hkk (i := 1) rfl
          have r0 := obj_cell ((HEc.out.trans (HEd.out.trans HEh.out)).obj HB3.out) (i := 0) rfl
          have r1 := obj_cell ((HEc.out.trans (HEd.out.trans HEh.out)).obj HB3.out) (i := 1) rfl
          clear hkk hsm y0 y1 y0f y1f k1 k1f q0 q1
          go_wp2_with (first
            | (go_at_call 10; refine (lEqClus _ _ R.1 _ HOh.out (HO3.out.ext (HEc.out.trans (HEd.out.trans HEh.out)))).mono ?_; rintro e wg ⟨rfl, hEg⟩; have HEg := hid (HEh.out.trans hEg); have q0 := obj_cell ((HEd.out.trans HEg.out).obj HBc.out) (i := 0) rfl; have q1 := obj_cell ((HEd.out.trans HEg.out).obj HBc.out) (i := 1) rfl; clear hEg)
            | (go_at_call 14; refine (lHeldClusterD _ R.1 1 _ (HQc.out.ext (HEd.out.trans HEg.out)) (Nat.le_trans HWR.out (by omega)) (by omega) (by omega)).mono ?_; rintro e wh ⟨rfl, hEh⟩; rw [← HMM.out]; have HEhh := hid hEh; clear hEh))
          go_ret
          exact ⟨rfl, HEW.out.trans (HED.out.trans (HEg.out.trans HEhh.out))⟩
      · go_simp
        refine hK.out _ _ (by exact KS.out _ (HX.out.trans (Ext.alloc _ _))) (fun hHeld => ?_)
        clear hK K
        (try simp only [Act.put, List.setIfInBounds_toArray, List.set_cons_zero, List.set_cons_succ])
        obtain ⟨p7, hp7⟩ : ∃ x, x = p1.alloc (.cells #[.slice none 0 0, .slice none 0 0] 32) := ⟨_, rfl⟩
        obtain ⟨Bh, hBh⟩ : ∃ x, x = p1.heap.size := ⟨_, rfl⟩
        have hE : Ext p1 p7 := by rw [hp7]; exact Ext.alloc _ _
        have HBh : Hid (p7.heap[Bh]? = some (.cells #[.slice none 0 0, .slice none 0 0] 32 (0, 0))) := hid (by rw [hp7, hBh]; exact heap_alloc_new _ _)
        have HLh : Hid (wd.heap.size ≤ Bh) := hid (by rw [hBh]; exact HX.out.size)
        rw [← hp7] at hHeld ⊢
        rw [← hBh]
        have HX := hid (HX.out.trans hE)
        have HOc := hid (HOc.out.ext hE)
        clear hp7 hBh hE
        refine WG.one (i := 3) rfl (by kernel_rfl) (fun K hK => ?_)
        go_simp
        refine (lToTask x (.slice An x.need.length cn) _ (XI.ext HXI.out (HED.out.trans HX.out)) HXL.out).mono ?_
        rintro e p8 ⟨vt, rfl, hOt, hE⟩
        have HOt : Hid (TaskV p8 (.agg #[.int .i64 x.id, vt]) x) := hid ⟨_, rfl, hOt.read⟩
        clear hOt
        (try dsimp only)
        have HX := hid (HX.out.trans hE)
        have HBh := hid (hE.obj HBh.out)
        have HOc := hid (HOc.out.ext hE)
        refine hK.out _ _ (by exact KS.out _ HX.out) (fun hHeld => ?_)
        clear hK K hE
        (try simp only [Act.put, List.setIfInBounds_toArray, List.set_cons_zero, List.set_cons_succ])
        refine WG.one (i := 5) rfl (by kernel_rfl) (fun K hK => ?_)
        go_simp
        refine (iClusterArriveD _ C _ x grant _ HOc.out (Nat.le_trans HM.out.2.1 (by omega)) (Nat.le_trans HM.out.2.2.1 (by omega)) HIR.out HOt.out HIX.out).mono ?_
        rw [← HRR.out]
        rintro e p9 ⟨vr, rfl, hOr, hE⟩
        obtain ⟨Ah, ch, Bhh, dh, rfl⟩ := hOr.form
        have HOr := hid hOr.read
        clear hOr
        (try dsimp only)
        have HX := hid (HX.out.trans hE)
        have HBh := hid (hE.obj HBh.out)
        have HOc := hid (HOc.out.ext hE)
        have HOt := hid (HOt.out.ext hE)
        refine hK.out _ _ (by exact KS.out _ HX.out) (fun hHeld => ?_)
        clear hK K hE
        (try simp only [Act.put, List.setIfInBounds_toArray, List.set_cons_zero, List.set_cons_succ])
        (refine WG.take (i := 6) (v := ?_) rfl (by kernel_rfl) (by kernel_rfl) (by kernel_rfl) (by kernel_rfl) (fun _ _ _ h => h) (Or.inl ⟨by rfl, ?_⟩) (by assumption) ?_; rotate_left; (intro w hSw; (try dsimp only at hSw); go_split_ands; go_simp; (try with_reducible rfl)); (try simp only [Act.put, List.setIfInBounds_toArray, List.set_cons_zero, List.set_cons_succ]))
        (refine WG.takeP (i := 7) (v := ?_) rfl (by kernel_rfl) (by kernel_rfl) (by kernel_rfl) (by kernel_rfl) (fun _ _ _ h => h) (Or.inl ⟨by rfl, ?_⟩) ?_; rotate_left; (intro w hSw; clear hSw; go_simp; (try with_reducible rfl)); (try simp only [Act.put, List.setIfInBounds_toArray, List.set_cons_zero, List.set_cons_succ]))
        (refine WG.takeP (i := 8) (v := ?_) rfl (by kernel_rfl) (by kernel_rfl) (by kernel_rfl) (by kernel_rfl) (fun _ _ _ h => h) (Or.inl ⟨by rfl, ?_⟩) ?_; rotate_left; (intro w hSw; clear hSw; go_simp; (try with_reducible rfl)); (try simp only [Act.put, List.setIfInBounds_toArray, List.set_cons_zero, List.set_cons_succ]))
        obtain ⟨y0, y1, y0f, y1f, k1, k1f, hkk, hsm⟩ := box2 HBh.out (.slice Ah R.1.room.length ch) (.slice Bhh R.1.units.length dh)
        refine WG.last (i := 10) rfl (by kernel_rfl) (by kernel_rfl) (fun K hK => ?_)
        go_simp
        refine hK.out _ _ ?_
        clear hK K
        (try simp only [Act.put, List.setIfInBounds_toArray, List.set_cons_zero, List.set_cons_succ])
        refine WG.last (i := 11) rfl (by kernel_rfl) (by kernel_rfl) (fun K hK => ?_)
        go_simp
        refine hK.out _ _ ?_
        clear hK K
        (try simp only [Act.put, List.setIfInBounds_toArray, List.set_cons_zero, List.set_cons_succ])
        refine WG.done (by kernel_rfl) ?_
        have HOh := hid (clusV_same HOr.out (hsm _ notClus))
        have HEh : Hid (Ext wd _) := hid (Below.setCell (Below.setCell HX.out HLh.out (p := ⟨Bh, 0, none⟩) (.slice Ah R.1.room.length ch)) HLh.out (p := ⟨Bh, 1, none⟩) (.slice Bhh R.1.units.length dh))
        have h0 := obj_cell hkk (i := 0) rfl
        have h1 := obj_cell hkk (i := 1) rfl
        have r0 := obj_cell ((HEc.out.trans (HEd.out.trans HEh.out)).obj HB3.out) (i := 0) rfl
        have r1 := obj_cell ((HEc.out.trans (HEd.out.trans HEh.out)).obj HB3.out) (i := 1) rfl
        clear hkk hsm y0 y1 y0f y1f k1 k1f q0 q1
        go_wp2_with (first
          | (go_at_call 10; refine (lEqClus _ _ R.1 _ HOh.out (HO3.out.ext (HEc.out.trans (HEd.out.trans HEh.out)))).mono ?_; rintro e wg ⟨rfl, hEg⟩; have HEg := hid (HEh.out.trans hEg); have q0 := obj_cell ((HEd.out.trans HEg.out).obj HBc.out) (i := 0) rfl; have q1 := obj_cell ((HEd.out.trans HEg.out).obj HBc.out) (i := 1) rfl; clear hEg)
          | (go_at_call 14; refine (lHeldClusterD _ R.1 1 _ (HQc.out.ext (HEd.out.trans HEg.out)) (Nat.le_trans HWR.out (by omega)) (by omega) (by omega)).mono ?_; rintro e wh ⟨rfl, hEh⟩; rw [← HMM.out]; have HEhh := hid hEh; clear hEh))
        go_ret
        exact ⟨rfl, HEW.out.trans (HED.out.trans (HEg.out.trans HEhh.out))⟩
    · go_simp
      refine hK.out _ _ (by exact KS.out _ (HX.out.trans (Ext.alloc _ _))) (fun hHeld => ?_)
      clear hK K
      (try simp only [Act.put, List.setIfInBounds_toArray, List.set_cons_zero, List.set_cons_succ])
      obtain ⟨p10, hp10⟩ : ∃ x, x = pz.alloc (.cells #[.slice none 0 0, .slice none 0 0] 32) := ⟨_, rfl⟩
      obtain ⟨Bh, hBh⟩ : ∃ x, x = pz.heap.size := ⟨_, rfl⟩
      have hE : Ext pz p10 := by rw [hp10]; exact Ext.alloc _ _
      have HBh : Hid (p10.heap[Bh]? = some (.cells #[.slice none 0 0, .slice none 0 0] 32 (0, 0))) := hid (by rw [hp10, hBh]; exact heap_alloc_new _ _)
      have HLh : Hid (wd.heap.size ≤ Bh) := hid (by rw [hBh]; exact HX.out.size)
      rw [← hp10] at hHeld ⊢
      rw [← hBh]
      have HX := hid (HX.out.trans hE)
      clear hp10 hBh hE
      refine WG.one (i := 1) rfl (by kernel_rfl) (fun K hK => ?_)
      go_simp
      refine (lToCluster _ C _ (ClusX.ext HC.out (HED.out.trans HX.out)) (Nat.le_trans HM.out.1 (by omega)) (Nat.le_trans HM.out.2.1 (by omega)) (fun u hu => ⟨Nat.le_trans (HM.out.2.2.2 u hu).1 (by omega), fun t ht => Nat.le_trans ((HM.out.2.2.2 u hu).2 t ht) (by omega)⟩)).mono ?_
      rintro e p11 ⟨vc, rfl, hOc, hE⟩
      have HOc := hid hOc.read
      clear hOc
      (try dsimp only)
      have HX := hid (HX.out.trans hE)
      have HBh := hid (hE.obj HBh.out)
      refine hK.out _ _ (by exact KS.out _ HX.out) (fun hHeld => ?_)
      clear hK K hE
      (try simp only [Act.put, List.setIfInBounds_toArray, List.set_cons_zero, List.set_cons_succ])
      refine WG.one (i := 3) rfl (by kernel_rfl) (fun K hK => ?_)
      go_simp
      refine (lToTask x (.slice An x.need.length cn) _ (XI.ext HXI.out (HED.out.trans HX.out)) HXL.out).mono ?_
      rintro e p12 ⟨vt, rfl, hOt, hE⟩
      have HOt : Hid (TaskV p12 (.agg #[.int .i64 x.id, vt]) x) := hid ⟨_, rfl, hOt.read⟩
      clear hOt
      (try dsimp only)
      have HX := hid (HX.out.trans hE)
      have HBh := hid (hE.obj HBh.out)
      have HOc := hid (HOc.out.ext hE)
      refine hK.out _ _ (by exact KS.out _ HX.out) (fun hHeld => ?_)
      clear hK K hE
      (try simp only [Act.put, List.setIfInBounds_toArray, List.set_cons_zero, List.set_cons_succ])
      refine WG.one (i := 5) rfl (by kernel_rfl) (fun K hK => ?_)
      go_simp
      refine (iClusterArriveD _ C _ x grant _ HOc.out (Nat.le_trans HM.out.2.1 (by omega)) (Nat.le_trans HM.out.2.2.1 (by omega)) HIR.out HOt.out HIX.out).mono ?_
      rw [← HRR.out]
      rintro e p13 ⟨vr, rfl, hOr, hE⟩
      obtain ⟨Ah, ch, Bhh, dh, rfl⟩ := hOr.form
      have HOr := hid hOr.read
      clear hOr
      (try dsimp only)
      have HX := hid (HX.out.trans hE)
      have HBh := hid (hE.obj HBh.out)
      have HOc := hid (HOc.out.ext hE)
      have HOt := hid (HOt.out.ext hE)
      refine hK.out _ _ (by exact KS.out _ HX.out) (fun hHeld => ?_)
      clear hK K hE
      (try simp only [Act.put, List.setIfInBounds_toArray, List.set_cons_zero, List.set_cons_succ])
      (refine WG.take (i := 6) (v := ?_) rfl (by kernel_rfl) (by kernel_rfl) (by kernel_rfl) (by kernel_rfl) (fun _ _ _ h => h) (Or.inl ⟨by rfl, ?_⟩) (by assumption) ?_; rotate_left; (intro w hSw; (try dsimp only at hSw); go_split_ands; go_simp; (try with_reducible rfl)); (try simp only [Act.put, List.setIfInBounds_toArray, List.set_cons_zero, List.set_cons_succ]))
      (refine WG.takeP (i := 7) (v := ?_) rfl (by kernel_rfl) (by kernel_rfl) (by kernel_rfl) (by kernel_rfl) (fun _ _ _ h => h) (Or.inl ⟨by rfl, ?_⟩) ?_; rotate_left; (intro w hSw; clear hSw; go_simp; (try with_reducible rfl)); (try simp only [Act.put, List.setIfInBounds_toArray, List.set_cons_zero, List.set_cons_succ]))
      (refine WG.takeP (i := 8) (v := ?_) rfl (by kernel_rfl) (by kernel_rfl) (by kernel_rfl) (by kernel_rfl) (fun _ _ _ h => h) (Or.inl ⟨by rfl, ?_⟩) ?_; rotate_left; (intro w hSw; clear hSw; go_simp; (try with_reducible rfl)); (try simp only [Act.put, List.setIfInBounds_toArray, List.set_cons_zero, List.set_cons_succ]))
      obtain ⟨y0, y1, y0f, y1f, k1, k1f, hkk, hsm⟩ := box2 HBh.out (.slice Ah R.1.room.length ch) (.slice Bhh R.1.units.length dh)
      refine WG.last (i := 10) rfl (by kernel_rfl) (by kernel_rfl) (fun K hK => ?_)
      go_simp
      refine hK.out _ _ ?_
      clear hK K
      (try simp only [Act.put, List.setIfInBounds_toArray, List.set_cons_zero, List.set_cons_succ])
      refine WG.last (i := 11) rfl (by kernel_rfl) (by kernel_rfl) (fun K hK => ?_)
      go_simp
      refine hK.out _ _ ?_
      clear hK K
      (try simp only [Act.put, List.setIfInBounds_toArray, List.set_cons_zero, List.set_cons_succ])
      refine WG.done (by kernel_rfl) ?_
      have HOh := hid (clusV_same HOr.out (hsm _ notClus))
      have HEh : Hid (Ext wd _) := hid (Below.setCell (Below.setCell HX.out HLh.out (p := ⟨Bh, 0, none⟩) (.slice Ah R.1.room.length ch)) HLh.out (p := ⟨Bh, 1, none⟩) (.slice Bhh R.1.units.length dh))
      have h0 := obj_cell hkk (i := 0) rfl
      have h1 := obj_cell hkk (i := 1) rfl
      have r0 := obj_cell ((HEc.out.trans (HEd.out.trans HEh.out)).obj HB3.out) (i := 0) rfl
      have r1 := obj_cell ((HEc.out.trans (HEd.out.trans HEh.out)).obj HB3.out) (i := 1) rfl
      clear hkk hsm y0 y1 y0f y1f k1 k1f q0 q1
      go_wp2_with (first
        | (go_at_call 10; refine (lEqClus _ _ R.1 _ HOh.out (HO3.out.ext (HEc.out.trans (HEd.out.trans HEh.out)))).mono ?_; rintro e wg ⟨rfl, hEg⟩; have HEg := hid (HEh.out.trans hEg); have q0 := obj_cell ((HEd.out.trans HEg.out).obj HBc.out) (i := 0) rfl; have q1 := obj_cell ((HEd.out.trans HEg.out).obj HBc.out) (i := 1) rfl; clear hEg)
        | (go_at_call 14; refine (lHeldClusterD _ R.1 1 _ (HQc.out.ext (HEd.out.trans HEg.out)) (Nat.le_trans HWR.out (by omega)) (by omega) (by omega)).mono ?_; rintro e wh ⟨rfl, hEh⟩; rw [← HMM.out]; have HEhh := hid hEh; clear hEh))
      go_ret
      exact ⟨rfl, HEW.out.trans (HED.out.trans (HEg.out.trans HEhh.out))⟩
  · have HJP := hid hJP
    clear hJP
    have KS : Hid (∀ w', Ext w2 w' → w'.cell? ⟨w.heap.size, 0, none⟩ = some (.slice Ar C.room.length cr) ∧ w'.cell? ⟨w.heap.size, 1, none⟩ = some (.slice Au C.units.length cu) ∧ w'.cell? ⟨w.heap.size + 1, 0, none⟩ = some (.int .i64 x.id) ∧ w'.cell? ⟨w.heap.size + 1, 1, none⟩ = some (.slice An x.need.length cn)) := hid fun w' hw => KB.out _ (HE2.out.trans hw)
    have HD : Hid (Ext w2 w2.drew) := hid (Below.drew (Below.refl _ _))
    refine WG.start (fun w' => w'.cell? ⟨w.heap.size, 0, none⟩ = some (.slice Ar C.room.length cr) ∧ w'.cell? ⟨w.heap.size, 1, none⟩ = some (.slice Au C.units.length cu) ∧ w'.cell? ⟨w.heap.size + 1, 0, none⟩ = some (.int .i64 x.id) ∧ w'.cell? ⟨w.heap.size + 1, 1, none⟩ = some (.slice An x.need.length cn)) [7,8,10,11] (by kernel_rfl) (by exact KS.out _ HD.out) (fun hHeld => ?_)
    obtain ⟨pz, hpz⟩ : ∃ x, x = w2.drew := ⟨_, rfl⟩
    rw [← hpz] at hHeld ⊢
    have HX : Hid (Ext w2 pz) := hid (by rw [hpz]; exact HD.out)
    clear hpz
    (refine WG.take (i := 0) (v := ?_) rfl (by kernel_rfl) (by kernel_rfl) (by kernel_rfl) (by kernel_rfl) (fun _ _ _ h => h) (Or.inl ⟨by rfl, ?_⟩) (by assumption) ?_; rotate_left; (intro w hSw; (try dsimp only at hSw); go_split_ands; go_simp; (try with_reducible rfl)); (try simp only [Act.put, List.setIfInBounds_toArray, List.set_cons_zero, List.set_cons_succ]))
    (refine WG.take (i := 2) (v := ?_) rfl (by kernel_rfl) (by kernel_rfl) (by kernel_rfl) (by kernel_rfl) (fun _ _ _ h => h) (Or.inl ⟨by rfl, ?_⟩) (by assumption) ?_; rotate_left; (intro w hSw; (try dsimp only at hSw); go_split_ands; go_simp; (try with_reducible rfl)); (try simp only [Act.put, List.setIfInBounds_toArray, List.set_cons_zero, List.set_cons_succ]))
    (refine WG.take (i := 4) (v := ?_) rfl (by kernel_rfl) (by kernel_rfl) (by kernel_rfl) (by kernel_rfl) (fun _ _ _ h => h) (Or.inl ⟨by rfl, ?_⟩) (by assumption) ?_; rotate_left; (intro w hSw; (try dsimp only at hSw); go_split_ands; go_simp; (try with_reducible rfl)); (try simp only [Act.put, List.setIfInBounds_toArray, List.set_cons_zero, List.set_cons_succ]))
    refine WG.two (i := 1) (j := 9) rfl rfl (by kernel_rfl) (fun K hK => ?_) (fun K hK => ?_)
    · go_simp
      refine (lToCluster _ C _ (ClusX.ext HC.out (HE2.out.trans HX.out)) (Nat.le_trans HM.out.1 (by omega)) (Nat.le_trans HM.out.2.1 (by omega)) (fun u hu => ⟨Nat.le_trans (HM.out.2.2.2 u hu).1 (by omega), fun t ht => Nat.le_trans ((HM.out.2.2.2 u hu).2 t ht) (by omega)⟩)).mono ?_
      rintro e p1 ⟨vc, rfl, hOc, hE⟩
      have HOc := hid hOc.read
      clear hOc
      (try dsimp only)
      have HX := hid (HX.out.trans hE)
      refine hK.out _ _ (by exact KS.out _ HX.out) (fun hHeld => ?_)
      clear hK K hE
      (try simp only [Act.put, List.setIfInBounds_toArray, List.set_cons_zero, List.set_cons_succ])
      refine WG.two (i := 3) (j := 9) rfl rfl (by kernel_rfl) (fun K hK => ?_) (fun K hK => ?_)
      · go_simp
        refine (lToTask x (.slice An x.need.length cn) _ (XI.ext HXI.out (HE2.out.trans HX.out)) HXL.out).mono ?_
        rintro e p2 ⟨vt, rfl, hOt, hE⟩
        have HOt : Hid (TaskV p2 (.agg #[.int .i64 x.id, vt]) x) := hid ⟨_, rfl, hOt.read⟩
        clear hOt
        (try dsimp only)
        have HX := hid (HX.out.trans hE)
        have HOc := hid (HOc.out.ext hE)
        refine hK.out _ _ (by exact KS.out _ HX.out) (fun hHeld => ?_)
        clear hK K hE
        (try simp only [Act.put, List.setIfInBounds_toArray, List.set_cons_zero, List.set_cons_succ])
        refine WG.two (i := 5) (j := 9) rfl rfl (by kernel_rfl) (fun K hK => ?_) (fun K hK => ?_)
        · go_simp
          refine (sClusterArrive _ _ C x grant _ HOc.out HOt.out (Nat.le_trans HM.out.2.1 (by omega)) (Nat.le_trans HM.out.2.2.1 (by omega))).mono ?_
          rw [← HRR.out]
          rintro e p3 ⟨vr, rfl, hOr, hE⟩
          obtain ⟨A3, c3, B3, d3, rfl⟩ := hOr.form
          have HOr := hid hOr.read
          clear hOr
          (try dsimp only)
          have HX := hid (HX.out.trans hE)
          have HOc := hid (HOc.out.ext hE)
          have HOt := hid (HOt.out.ext hE)
          refine hK.out _ _ (by exact KS.out _ HX.out) (fun hHeld => ?_)
          clear hK K hE
          (try simp only [Act.put, List.setIfInBounds_toArray, List.set_cons_zero, List.set_cons_succ])
          (refine WG.take (i := 6) (v := ?_) rfl (by kernel_rfl) (by kernel_rfl) (by kernel_rfl) (by kernel_rfl) (fun _ _ _ h => h) (Or.inl ⟨by rfl, ?_⟩) (by assumption) ?_; rotate_left; (intro w hSw; (try dsimp only at hSw); go_split_ands; go_simp; (try with_reducible rfl)); (try simp only [Act.put, List.setIfInBounds_toArray, List.set_cons_zero, List.set_cons_succ]))
          (refine WG.takeP (i := 7) (v := ?_) rfl (by kernel_rfl) (by kernel_rfl) (by kernel_rfl) (by kernel_rfl) (fun _ _ _ h => h) (Or.inl ⟨by rfl, ?_⟩) ?_; rotate_left; (intro w hSw; clear hSw; go_simp; (try with_reducible rfl)); (try simp only [Act.put, List.setIfInBounds_toArray, List.set_cons_zero, List.set_cons_succ]))
          (refine WG.takeP (i := 8) (v := ?_) rfl (by kernel_rfl) (by kernel_rfl) (by kernel_rfl) (by kernel_rfl) (fun _ _ _ h => h) (Or.inl ⟨by rfl, ?_⟩) ?_; rotate_left; (intro w hSw; clear hSw; go_simp; (try with_reducible rfl)); (try simp only [Act.put, List.setIfInBounds_toArray, List.set_cons_zero, List.set_cons_succ]))
          refine WG.one (i := 9) rfl (by kernel_rfl) (fun K hK => ?_)
          go_simp
          refine hK.out _ _ (by exact KS.out _ (HX.out.trans (Ext.alloc _ _))) (fun hHeld => ?_)
          clear hK K
          (try simp only [Act.put, List.setIfInBounds_toArray, List.set_cons_zero, List.set_cons_succ])
          obtain ⟨p4, hp4⟩ : ∃ x, x = p3.alloc (.cells #[.slice none 0 0, .slice none 0 0] 32) := ⟨_, rfl⟩
          obtain ⟨B8, hB8⟩ : ∃ x, x = p3.heap.size := ⟨_, rfl⟩
          have hE : Ext p3 p4 := by rw [hp4]; exact Ext.alloc _ _
          have HB8 : Hid (p4.heap[B8]? = some (.cells #[.slice none 0 0, .slice none 0 0] 32 (0, 0))) := hid (by rw [hp4, hB8]; exact heap_alloc_new _ _)
          have HL8 : Hid (w2.heap.size ≤ B8) := hid (by rw [hB8]; exact HX.out.size)
          rw [← hp4] at hHeld ⊢
          rw [← hB8]
          have HX := hid (HX.out.trans hE)
          have HOc := hid (HOc.out.ext hE)
          have HOt := hid (HOt.out.ext hE)
          have HOr := hid (HOr.out.ext hE)
          clear hp4 hB8 hE
          obtain ⟨y0, y1, y0f, y1f, k1, k1f, hkk, hsm⟩ := box2 HB8.out (.slice A3 R.1.room.length c3) (.slice B3 R.1.units.length d3)
          refine WG.last (i := 10) rfl (by kernel_rfl) (by kernel_rfl) (fun K hK => ?_)
          go_simp
          refine hK.out _ _ ?_
          clear hK K
          (try simp only [Act.put, List.setIfInBounds_toArray, List.set_cons_zero, List.set_cons_succ])
          refine WG.last (i := 11) rfl (by kernel_rfl) (by kernel_rfl) (fun K hK => ?_)
          go_simp
          refine hK.out _ _ ?_
          clear hK K
          (try simp only [Act.put, List.setIfInBounds_toArray, List.set_cons_zero, List.set_cons_succ])
          refine WG.done (by kernel_rfl) ?_
          exact HJP.out _ _ ⟨B8, A3, c3, B3, d3, _, _, _, _, _, _, _, _, _, _, _, _, _, _, _, _, _, _, _, rfl, hkk, clusV_same HOr.out (hsm _ notClus), HL8.out, Below.setCell (Below.setCell HX.out HL8.out _) HL8.out _⟩
        · go_simp
          refine hK.out _ _ (by exact KS.out _ (HX.out.trans (Ext.alloc _ _))) (fun hHeld => ?_)
          clear hK K
          (try simp only [Act.put, List.setIfInBounds_toArray, List.set_cons_zero, List.set_cons_succ])
          obtain ⟨p5, hp5⟩ : ∃ x, x = p2.alloc (.cells #[.slice none 0 0, .slice none 0 0] 32) := ⟨_, rfl⟩
          obtain ⟨B8, hB8⟩ : ∃ x, x = p2.heap.size := ⟨_, rfl⟩
          have hE : Ext p2 p5 := by rw [hp5]; exact Ext.alloc _ _
          have HB8 : Hid (p5.heap[B8]? = some (.cells #[.slice none 0 0, .slice none 0 0] 32 (0, 0))) := hid (by rw [hp5, hB8]; exact heap_alloc_new _ _)
          have HL8 : Hid (w2.heap.size ≤ B8) := hid (by rw [hB8]; exact HX.out.size)
          rw [← hp5] at hHeld ⊢
          rw [← hB8]
          have HX := hid (HX.out.trans hE)
          have HOc := hid (HOc.out.ext hE)
          have HOt := hid (HOt.out.ext hE)
          clear hp5 hB8 hE
          refine WG.one (i := 5) rfl (by kernel_rfl) (fun K hK => ?_)
          go_simp
          refine (sClusterArrive _ _ C x grant _ HOc.out HOt.out (Nat.le_trans HM.out.2.1 (by omega)) (Nat.le_trans HM.out.2.2.1 (by omega))).mono ?_
          rw [← HRR.out]
          rintro e p6 ⟨vr, rfl, hOr, hE⟩
          obtain ⟨A3, c3, B3, d3, rfl⟩ := hOr.form
          have HOr := hid hOr.read
          clear hOr
          (try dsimp only)
          have HX := hid (HX.out.trans hE)
          have HB8 := hid (hE.obj HB8.out)
          have HOc := hid (HOc.out.ext hE)
          have HOt := hid (HOt.out.ext hE)
          refine hK.out _ _ (by exact KS.out _ HX.out) (fun hHeld => ?_)
          clear hK K hE
          (try simp only [Act.put, List.setIfInBounds_toArray, List.set_cons_zero, List.set_cons_succ])
          (refine WG.take (i := 6) (v := ?_) rfl (by kernel_rfl) (by kernel_rfl) (by kernel_rfl) (by kernel_rfl) (fun _ _ _ h => h) (Or.inl ⟨by rfl, ?_⟩) (by assumption) ?_; rotate_left; (intro w hSw; (try dsimp only at hSw); go_split_ands; go_simp; (try with_reducible rfl)); (try simp only [Act.put, List.setIfInBounds_toArray, List.set_cons_zero, List.set_cons_succ]))
          (refine WG.takeP (i := 7) (v := ?_) rfl (by kernel_rfl) (by kernel_rfl) (by kernel_rfl) (by kernel_rfl) (fun _ _ _ h => h) (Or.inl ⟨by rfl, ?_⟩) ?_; rotate_left; (intro w hSw; clear hSw; go_simp; (try with_reducible rfl)); (try simp only [Act.put, List.setIfInBounds_toArray, List.set_cons_zero, List.set_cons_succ]))
          (refine WG.takeP (i := 8) (v := ?_) rfl (by kernel_rfl) (by kernel_rfl) (by kernel_rfl) (by kernel_rfl) (fun _ _ _ h => h) (Or.inl ⟨by rfl, ?_⟩) ?_; rotate_left; (intro w hSw; clear hSw; go_simp; (try with_reducible rfl)); (try simp only [Act.put, List.setIfInBounds_toArray, List.set_cons_zero, List.set_cons_succ]))
          obtain ⟨y0, y1, y0f, y1f, k1, k1f, hkk, hsm⟩ := box2 HB8.out (.slice A3 R.1.room.length c3) (.slice B3 R.1.units.length d3)
          refine WG.last (i := 10) rfl (by kernel_rfl) (by kernel_rfl) (fun K hK => ?_)
          go_simp
          refine hK.out _ _ ?_
          clear hK K
          (try simp only [Act.put, List.setIfInBounds_toArray, List.set_cons_zero, List.set_cons_succ])
          refine WG.last (i := 11) rfl (by kernel_rfl) (by kernel_rfl) (fun K hK => ?_)
          go_simp
          refine hK.out _ _ ?_
          clear hK K
          (try simp only [Act.put, List.setIfInBounds_toArray, List.set_cons_zero, List.set_cons_succ])
          refine WG.done (by kernel_rfl) ?_
          exact HJP.out _ _ ⟨B8, A3, c3, B3, d3, _, _, _, _, _, _, _, _, _, _, _, _, _, _, _, _, _, _, _, rfl, hkk, clusV_same HOr.out (hsm _ notClus), HL8.out, Below.setCell (Below.setCell HX.out HL8.out _) HL8.out _⟩
      · go_simp
        refine hK.out _ _ (by exact KS.out _ (HX.out.trans (Ext.alloc _ _))) (fun hHeld => ?_)
        clear hK K
        (try simp only [Act.put, List.setIfInBounds_toArray, List.set_cons_zero, List.set_cons_succ])
        obtain ⟨p7, hp7⟩ : ∃ x, x = p1.alloc (.cells #[.slice none 0 0, .slice none 0 0] 32) := ⟨_, rfl⟩
        obtain ⟨B8, hB8⟩ : ∃ x, x = p1.heap.size := ⟨_, rfl⟩
        have hE : Ext p1 p7 := by rw [hp7]; exact Ext.alloc _ _
        have HB8 : Hid (p7.heap[B8]? = some (.cells #[.slice none 0 0, .slice none 0 0] 32 (0, 0))) := hid (by rw [hp7, hB8]; exact heap_alloc_new _ _)
        have HL8 : Hid (w2.heap.size ≤ B8) := hid (by rw [hB8]; exact HX.out.size)
        rw [← hp7] at hHeld ⊢
        rw [← hB8]
        have HX := hid (HX.out.trans hE)
        have HOc := hid (HOc.out.ext hE)
        clear hp7 hB8 hE
        refine WG.one (i := 3) rfl (by kernel_rfl) (fun K hK => ?_)
        go_simp
        refine (lToTask x (.slice An x.need.length cn) _ (XI.ext HXI.out (HE2.out.trans HX.out)) HXL.out).mono ?_
        rintro e p8 ⟨vt, rfl, hOt, hE⟩
        have HOt : Hid (TaskV p8 (.agg #[.int .i64 x.id, vt]) x) := hid ⟨_, rfl, hOt.read⟩
        clear hOt
        (try dsimp only)
        have HX := hid (HX.out.trans hE)
        have HB8 := hid (hE.obj HB8.out)
        have HOc := hid (HOc.out.ext hE)
        refine hK.out _ _ (by exact KS.out _ HX.out) (fun hHeld => ?_)
        clear hK K hE
        (try simp only [Act.put, List.setIfInBounds_toArray, List.set_cons_zero, List.set_cons_succ])
        refine WG.one (i := 5) rfl (by kernel_rfl) (fun K hK => ?_)
        go_simp
        refine (sClusterArrive _ _ C x grant _ HOc.out HOt.out (Nat.le_trans HM.out.2.1 (by omega)) (Nat.le_trans HM.out.2.2.1 (by omega))).mono ?_
        rw [← HRR.out]
        rintro e p9 ⟨vr, rfl, hOr, hE⟩
        obtain ⟨A3, c3, B3, d3, rfl⟩ := hOr.form
        have HOr := hid hOr.read
        clear hOr
        (try dsimp only)
        have HX := hid (HX.out.trans hE)
        have HB8 := hid (hE.obj HB8.out)
        have HOc := hid (HOc.out.ext hE)
        have HOt := hid (HOt.out.ext hE)
        refine hK.out _ _ (by exact KS.out _ HX.out) (fun hHeld => ?_)
        clear hK K hE
        (try simp only [Act.put, List.setIfInBounds_toArray, List.set_cons_zero, List.set_cons_succ])
        (refine WG.take (i := 6) (v := ?_) rfl (by kernel_rfl) (by kernel_rfl) (by kernel_rfl) (by kernel_rfl) (fun _ _ _ h => h) (Or.inl ⟨by rfl, ?_⟩) (by assumption) ?_; rotate_left; (intro w hSw; (try dsimp only at hSw); go_split_ands; go_simp; (try with_reducible rfl)); (try simp only [Act.put, List.setIfInBounds_toArray, List.set_cons_zero, List.set_cons_succ]))
        (refine WG.takeP (i := 7) (v := ?_) rfl (by kernel_rfl) (by kernel_rfl) (by kernel_rfl) (by kernel_rfl) (fun _ _ _ h => h) (Or.inl ⟨by rfl, ?_⟩) ?_; rotate_left; (intro w hSw; clear hSw; go_simp; (try with_reducible rfl)); (try simp only [Act.put, List.setIfInBounds_toArray, List.set_cons_zero, List.set_cons_succ]))
        (refine WG.takeP (i := 8) (v := ?_) rfl (by kernel_rfl) (by kernel_rfl) (by kernel_rfl) (by kernel_rfl) (fun _ _ _ h => h) (Or.inl ⟨by rfl, ?_⟩) ?_; rotate_left; (intro w hSw; clear hSw; go_simp; (try with_reducible rfl)); (try simp only [Act.put, List.setIfInBounds_toArray, List.set_cons_zero, List.set_cons_succ]))
        obtain ⟨y0, y1, y0f, y1f, k1, k1f, hkk, hsm⟩ := box2 HB8.out (.slice A3 R.1.room.length c3) (.slice B3 R.1.units.length d3)
        refine WG.last (i := 10) rfl (by kernel_rfl) (by kernel_rfl) (fun K hK => ?_)
        go_simp
        refine hK.out _ _ ?_
        clear hK K
        (try simp only [Act.put, List.setIfInBounds_toArray, List.set_cons_zero, List.set_cons_succ])
        refine WG.last (i := 11) rfl (by kernel_rfl) (by kernel_rfl) (fun K hK => ?_)
        go_simp
        refine hK.out _ _ ?_
        clear hK K
        (try simp only [Act.put, List.setIfInBounds_toArray, List.set_cons_zero, List.set_cons_succ])
        refine WG.done (by kernel_rfl) ?_
        exact HJP.out _ _ ⟨B8, A3, c3, B3, d3, _, _, _, _, _, _, _, _, _, _, _, _, _, _, _, _, _, _, _, rfl, hkk, clusV_same HOr.out (hsm _ notClus), HL8.out, Below.setCell (Below.setCell HX.out HL8.out _) HL8.out _⟩
    · go_simp
      refine hK.out _ _ (by exact KS.out _ (HX.out.trans (Ext.alloc _ _))) (fun hHeld => ?_)
      clear hK K
      (try simp only [Act.put, List.setIfInBounds_toArray, List.set_cons_zero, List.set_cons_succ])
      obtain ⟨p10, hp10⟩ : ∃ x, x = pz.alloc (.cells #[.slice none 0 0, .slice none 0 0] 32) := ⟨_, rfl⟩
      obtain ⟨B8, hB8⟩ : ∃ x, x = pz.heap.size := ⟨_, rfl⟩
      have hE : Ext pz p10 := by rw [hp10]; exact Ext.alloc _ _
      have HB8 : Hid (p10.heap[B8]? = some (.cells #[.slice none 0 0, .slice none 0 0] 32 (0, 0))) := hid (by rw [hp10, hB8]; exact heap_alloc_new _ _)
      have HL8 : Hid (w2.heap.size ≤ B8) := hid (by rw [hB8]; exact HX.out.size)
      rw [← hp10] at hHeld ⊢
      rw [← hB8]
      have HX := hid (HX.out.trans hE)
      clear hp10 hB8 hE
      refine WG.one (i := 1) rfl (by kernel_rfl) (fun K hK => ?_)
      go_simp
      refine (lToCluster _ C _ (ClusX.ext HC.out (HE2.out.trans HX.out)) (Nat.le_trans HM.out.1 (by omega)) (Nat.le_trans HM.out.2.1 (by omega)) (fun u hu => ⟨Nat.le_trans (HM.out.2.2.2 u hu).1 (by omega), fun t ht => Nat.le_trans ((HM.out.2.2.2 u hu).2 t ht) (by omega)⟩)).mono ?_
      rintro e p11 ⟨vc, rfl, hOc, hE⟩
      have HOc := hid hOc.read
      clear hOc
      (try dsimp only)
      have HX := hid (HX.out.trans hE)
      have HB8 := hid (hE.obj HB8.out)
      refine hK.out _ _ (by exact KS.out _ HX.out) (fun hHeld => ?_)
      clear hK K hE
      (try simp only [Act.put, List.setIfInBounds_toArray, List.set_cons_zero, List.set_cons_succ])
      refine WG.one (i := 3) rfl (by kernel_rfl) (fun K hK => ?_)
      go_simp
      refine (lToTask x (.slice An x.need.length cn) _ (XI.ext HXI.out (HE2.out.trans HX.out)) HXL.out).mono ?_
      rintro e p12 ⟨vt, rfl, hOt, hE⟩
      have HOt : Hid (TaskV p12 (.agg #[.int .i64 x.id, vt]) x) := hid ⟨_, rfl, hOt.read⟩
      clear hOt
      (try dsimp only)
      have HX := hid (HX.out.trans hE)
      have HB8 := hid (hE.obj HB8.out)
      have HOc := hid (HOc.out.ext hE)
      refine hK.out _ _ (by exact KS.out _ HX.out) (fun hHeld => ?_)
      clear hK K hE
      (try simp only [Act.put, List.setIfInBounds_toArray, List.set_cons_zero, List.set_cons_succ])
      refine WG.one (i := 5) rfl (by kernel_rfl) (fun K hK => ?_)
      go_simp
      refine (sClusterArrive _ _ C x grant _ HOc.out HOt.out (Nat.le_trans HM.out.2.1 (by omega)) (Nat.le_trans HM.out.2.2.1 (by omega))).mono ?_
      rw [← HRR.out]
      rintro e p13 ⟨vr, rfl, hOr, hE⟩
      obtain ⟨A3, c3, B3, d3, rfl⟩ := hOr.form
      have HOr := hid hOr.read
      clear hOr
      (try dsimp only)
      have HX := hid (HX.out.trans hE)
      have HB8 := hid (hE.obj HB8.out)
      have HOc := hid (HOc.out.ext hE)
      have HOt := hid (HOt.out.ext hE)
      refine hK.out _ _ (by exact KS.out _ HX.out) (fun hHeld => ?_)
      clear hK K hE
      (try simp only [Act.put, List.setIfInBounds_toArray, List.set_cons_zero, List.set_cons_succ])
      (refine WG.take (i := 6) (v := ?_) rfl (by kernel_rfl) (by kernel_rfl) (by kernel_rfl) (by kernel_rfl) (fun _ _ _ h => h) (Or.inl ⟨by rfl, ?_⟩) (by assumption) ?_; rotate_left; (intro w hSw; (try dsimp only at hSw); go_split_ands; go_simp; (try with_reducible rfl)); (try simp only [Act.put, List.setIfInBounds_toArray, List.set_cons_zero, List.set_cons_succ]))
      (refine WG.takeP (i := 7) (v := ?_) rfl (by kernel_rfl) (by kernel_rfl) (by kernel_rfl) (by kernel_rfl) (fun _ _ _ h => h) (Or.inl ⟨by rfl, ?_⟩) ?_; rotate_left; (intro w hSw; clear hSw; go_simp; (try with_reducible rfl)); (try simp only [Act.put, List.setIfInBounds_toArray, List.set_cons_zero, List.set_cons_succ]))
      (refine WG.takeP (i := 8) (v := ?_) rfl (by kernel_rfl) (by kernel_rfl) (by kernel_rfl) (by kernel_rfl) (fun _ _ _ h => h) (Or.inl ⟨by rfl, ?_⟩) ?_; rotate_left; (intro w hSw; clear hSw; go_simp; (try with_reducible rfl)); (try simp only [Act.put, List.setIfInBounds_toArray, List.set_cons_zero, List.set_cons_succ]))
      obtain ⟨y0, y1, y0f, y1f, k1, k1f, hkk, hsm⟩ := box2 HB8.out (.slice A3 R.1.room.length c3) (.slice B3 R.1.units.length d3)
      refine WG.last (i := 10) rfl (by kernel_rfl) (by kernel_rfl) (fun K hK => ?_)
      go_simp
      refine hK.out _ _ ?_
      clear hK K
      (try simp only [Act.put, List.setIfInBounds_toArray, List.set_cons_zero, List.set_cons_succ])
      refine WG.last (i := 11) rfl (by kernel_rfl) (by kernel_rfl) (fun K hK => ?_)
      go_simp
      refine hK.out _ _ ?_
      clear hK K
      (try simp only [Act.put, List.setIfInBounds_toArray, List.set_cons_zero, List.set_cons_succ])
      refine WG.done (by kernel_rfl) ?_
      exact HJP.out _ _ ⟨B8, A3, c3, B3, d3, _, _, _, _, _, _, _, _, _, _, _, _, _, _, _, _, _, _, _, rfl, hkk, clusV_same HOr.out (hsm _ notClus), HL8.out, Below.setCell (Below.setCell HX.out HL8.out _) HL8.out _⟩

end Go.Proofs.YtkdkmihgnplooaaGreat
