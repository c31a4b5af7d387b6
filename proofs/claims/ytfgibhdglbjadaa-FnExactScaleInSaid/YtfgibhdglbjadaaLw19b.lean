/- The law FnExactScaleIn. -/
import Derived.Test.YtfgibhdglbjadaaK24
import Derived.Test.YtfgibhdglbjadaaK22
import Derived.Test.YtfgibhdglbjadaaK23
namespace Go.Proofs.Ytfgibhdglbjadaa
open Go.RowKit
set_option maxRecDepth 4000

theorem inN_len (C : ClusD) (need : List Int) (want : Int) : (inN C need want).length ≤ 10 := by
  unfold inN
  split
  · rename_i h
    simp only [Bool.and_eq_true] at h
    have hw : 0 ≤ want := by have := h.2; simp [inB] at this; exact this.1
    have := (inSt_bd (us := C.units) (want := want) hw (spare_bd h.1.1 need) (full_bd h.1.1 need).1 C.units.length).2.2
    have := (clusOk_len h.1.1).2
    omega
  · simp

set_option maxHeartbeats 8000000 in
theorem lawExactScaleIn (cv nv : Value) (C : ClusD) (need : List Int) (want : Int) (w : World) (h : ClusX w cv C) (hid' : ∀ t ∈ (C.units.map (·.tasks)).flatten, IdR t.id) (hn : XI w nv need) :
    Calls Try.prog 9 #[cv, nv, .int .i64 want] w (RetB w true) := by
  have h0 := h
  have hn0 := hn
  obtain ⟨rv, uv, rfl, hr, hu⟩ := h
  obtain ⟨Ar, cr, rfl, _⟩ := hr
  obtain ⟨Au, cu, rfl, _⟩ := hu
  obtain ⟨An, cn, rfl, _⟩ := hn
  obtain ⟨W, hW⟩ : ∃ W, W = w.alloc (.cells #[.slice Ar C.room.length cr, .slice Au C.units.length cu] 33) := ⟨_, rfl⟩
  have hEW : Ext w W := by rw [hW]; exact Ext.alloc _ _
  have hb0 : W.cell? ⟨w.heap.size, 0, none⟩ = some (.slice Ar C.room.length cr) := by rw [hW]; exact cell_new _ _ _ 0
  have hb1 : W.cell? ⟨w.heap.size, 1, none⟩ = some (.slice Au C.units.length cu) := by rw [hW]; exact cell_new _ _ _ 1
  have KB : Hid (∀ w', Ext W w' → w'.cell? ⟨w.heap.size, 0, none⟩ = some (.slice Ar C.room.length cr) ∧ w'.cell? ⟨w.heap.size, 1, none⟩ = some (.slice Au C.units.length cu)) := hid fun w' hw => ⟨hw.cell hb0, hw.cell hb1⟩
  have HC := hid (h0.ext hEW)
  have HNX := hid (XI.ext hn0 hEW)
  have HEW := hid hEW
  have HIR := hid hid'
  obtain ⟨ys, hys⟩ : ∃ ys, ys = inN C need want := ⟨_, rfl⟩
  have HYS := hid hys
  have hyl : ys.length ≤ 10 := by rw [hys]; exact inN_len C need want
  obtain ⟨kk, hkk⟩ : ∃ kk : Int, kk = 1 + (wClus C : Int) + (need.length : Int) := ⟨_, rfl⟩
  have hkk0 : ¬ kk < 0 := by omega
  have HKK := hid hkk
  have hm0 : ¬ (1 + (ys.length : Int)) < 0 := by omega
  clear h0 hn0 hEW hid' hys hkk
  by_cases hnl : need.length ≤ 1048576
  · have in1 : ¬ (1048576 : Int) < (need.length : Int) := by omega
    go_enter Try.func9, Try.ntmps9
    go_wp2_with (first
      | (go_at_call 21; rw [← hW]; refine (lSzClus _ C 1048576 _ HC.out (by omega) (by omega)).mono ?_; rintro e w1 ⟨r, rfl, hE1, hr1, hr2, hr3⟩; obtain ⟨hb0, hb1⟩ := KB.out _ hE1; have HE1 := hid hE1; have HR3 := hid hr3; clear hE1 hr3 hW)
      | (go_at_call 23; have hq := HE4.out; refine (lToClusterD _ C _ (ClusX.ext HC.out hq) (Nat.le_trans HM.out.1 (by omega)) (Nat.le_trans HM.out.2.1 (by omega)) (fun u hu => ⟨Nat.le_trans (HM.out.2.2.2 u hu).1 (by omega), fun t ht => Nat.le_trans ((HM.out.2.2.2 u hu).2 t ht) (by omega)⟩)).mono ?_; rintro e w5 ⟨v5, rfl, hD5, hE5⟩; obtain ⟨A5, c5, B5, d5, hv5⟩ := hD5.form; subst hv5; have hx := Ext.alloc w5 (.cells #[.slice A5 C.room.length c5, .slice B5 C.units.length d5] 26); have HB5 := hid (heap_alloc_new w5 (.cells #[.slice A5 C.room.length c5, .slice B5 C.units.length d5] 26)); have HD5 := hid hD5; have HX5 := hid hx; have HE5 := hid (hE5.trans hx); clear hD5 hE5 hq hx)
      | (go_at_call 23; have HM := hid (wClus_bd (C := C) (M := 1048576) (by have := HR3.out (by omega); omega)); have HWC := hid (show wClus C ≤ 1048576 by have := HR3.out (by omega); omega); refine (lToCluster _ C _ (ClusX.ext HC.out HE1.out) (Nat.le_trans HM.out.1 (by omega)) (Nat.le_trans HM.out.2.1 (by omega)) (fun u hu => ⟨Nat.le_trans (HM.out.2.2.2 u hu).1 (by omega), fun t ht => Nat.le_trans ((HM.out.2.2.2 u hu).2 t ht) (by omega)⟩)).mono ?_; rintro e w2 ⟨v2, rfl, hO2, hE2⟩; have HO2 := hid hO2.read; have HE2 := hid (HE1.out.trans hE2); clear hO2 hE2)
      | (go_at_call 31; have hq := HE5.out; refine (lToInts _ need _ (XI.ext HNX.out (HE4.out.trans hq)) (by omega)).mono ?_; rintro e w6 ⟨v6, rfl, hO6, hE6⟩; obtain ⟨A6, c6, rfl, _, _⟩ := hO6.form; have HO6 := hid hO6; have HE6 := hid hE6; have p0 := obj_cell (hE6.obj HB5.out) (i := 0) rfl; have p1 := obj_cell (hE6.obj HB5.out) (i := 1) rfl; clear hO6 hE6 hq)
      | (go_at_call 31; refine (lToInts _ need _ (XI.ext HNX.out HE2.out) (by omega)).mono ?_; rintro e w3 ⟨v3, rfl, hO3, hE3⟩; have HO3 := hid hO3.read; have HE3 := hid (HE2.out.trans hE3); have HE23 := hid hE3; clear hO3 hE3)
      | (go_at_call 43; refine (sScaleIn _ _ C need want _ (HO2.out.ext HE23.out) HO3.out (Nat.le_trans HM.out.2.1 (by omega)) (Nat.le_trans HM.out.2.2.1 (by omega))).mono ?_; rintro e w4 ⟨v4, rfl, hO4, hE4⟩; rw [← HYS.out] at hO4; have HO4 := hid hO4.read; have HE4 := hid (HE3.out.trans hE4); obtain ⟨hb0, hb1⟩ := KB.out _ HE4.out; clear hO4 hE4)
      | (go_at_call 44; refine (iScaleIn _ _ C need want _ (HD5.out.read.ext (HX5.out.trans HE6.out)) HO6.out.read (Nat.le_trans HM.out.2.1 (by omega)) (Nat.le_trans HM.out.2.2.1 (by omega)) HIR.out).mono ?_; rintro e w7 ⟨v7, rfl, hO7, hE7⟩; rw [← HYS.out] at hO7; obtain ⟨A7, c7, rfl, _, _⟩ := hO7.form; have HO7 := hid hO7; have HE7 := hid hE7; clear hO7 hE7)
      | (go_at_call 25; refine (lEqInts _ _ ys _ HO7.out.read (RI.ext HO4.out (HE5.out.trans (HE6.out.trans HE7.out)))).mono ?_; rintro e w8 ⟨rfl, hE8⟩; have HE8 := hid hE8; have hx0 := obj_cell ((HE6.out.trans (HE7.out.trans hE8)).obj HB5.out) (i := 0) rfl; have hx1 := obj_cell ((HE6.out.trans (HE7.out.trans hE8)).obj HB5.out) (i := 1) rfl; obtain ⟨hb0, hb1⟩ := KB.out _ (HE4.out.trans (HE5.out.trans (HE6.out.trans (HE7.out.trans hE8)))); clear hE8))
    · go_ret
      exact ⟨rfl, HEW.out.trans HE1.out⟩
    · have KX : Hid (∀ w', Ext w8 w' → w'.cell? ⟨w5.heap.size, 0, none⟩ = some (.slice A5 C.room.length c5) ∧ w'.cell? ⟨w5.heap.size, 1, none⟩ = some (.slice B5 C.units.length d5) ∧ w'.cell? ⟨w.heap.size, 0, none⟩ = some (.slice Ar C.room.length cr) ∧ w'.cell? ⟨w.heap.size, 1, none⟩ = some (.slice Au C.units.length cu) ∧ Ext w8 w') := hid fun w' hw => ⟨hw.cell hx0, hw.cell hx1, hw.cell hb0, hw.cell hb1, hw⟩
      have H68 := hid (HE7.out.trans HE8.out)
      have H58 := hid (HE6.out.trans H68.out)
      have HW8 := hid (HE4.out.trans (HE5.out.trans H58.out))
      have hD0 : Ext w8 w8.drew := Below.drew (Below.refl _ _)
      go_region_held3 (fun w' => w'.cell? ⟨w5.heap.size, 0, none⟩ = some (.slice A5 C.room.length c5) ∧ w'.cell? ⟨w5.heap.size, 1, none⟩ = some (.slice B5 C.units.length d5) ∧ w'.cell? ⟨w.heap.size, 0, none⟩ = some (.slice Ar C.room.length cr) ∧ w'.cell? ⟨w.heap.size, 1, none⟩ = some (.slice Au C.units.length cu) ∧ Ext w8 w')
        (first | exact KX.out _ (by assumption) | exact KX.out _ (Below.drew (Below.refl _ _)))
        (first
          | (go_at_call 23; refine (lToCluster _ C _ (ClusX.ext HC.out (HW8.out.trans (Below.drew (Below.refl _ _)))) (Nat.le_trans HM.out.1 (by omega)) (Nat.le_trans HM.out.2.1 (by omega)) (fun u hu => ⟨Nat.le_trans (HM.out.2.2.2 u hu).1 (by omega), fun t ht => Nat.le_trans ((HM.out.2.2.2 u hu).2 t ht) (by omega)⟩)).mono ?_; rintro e w9 ⟨v9, rfl, hO9, hE9⟩; have HO9 := hid hO9.read; have h09 : Ext w8 w9 := Ext.trans (Below.drew (Below.refl _ _)) hE9; clear hO9 hE9)
          | (go_at_call 26; refine (lEqClus _ _ C _ (HD5.out.read.ext (HX5.out.trans (H58.out.trans (by assumption)))) HO9.out).mono ?_; rintro e w10 ⟨rfl, hE10⟩; have h10 : Ext w8 w10 := Ext.trans (by assumption) hE10))
      have H4B := hid (HE5.out.trans (H58.out.trans h10))
      have H6B := hid (H68.out.trans h10)
      have H7B := hid (HE8.out.trans h10)
      have HL4 : Hid (w4.heap.size ≤ w4.heap.size ∧ w4.heap.size ≤ (w5.alloc (.cells #[.slice A5 C.room.length c5, .slice B5 C.units.length d5] 26)).heap.size ∧ w4.heap.size ≤ w6.heap.size) := hid ⟨Nat.le_refl _, HE5.out.size, (HE5.out.trans HE6.out).size⟩
      have HX6L : Hid (∀ k, (Value.slice A6 need.length c6).ownBlock = some k → k < w6.heap.size) := hid fun k hk => (Own.lt HO6.out k hk).2
      go_wp2_with (first
        | (go_at_call 28; have hq := HGc.out; refine (lMarkInts A7 ys.length c7 c7 ys 1 _ _ hq (by omega) (by omega) (by omega)).mono ?_; rintro e wd ⟨rfl, hOd, hTd⟩; have HEd : Hid (Ext w4 wd) := hid (Below.trans HEc.out (hTd.below (fun k hk => Nat.le_trans HL4.out.2.2 (Own.lt hq k (by simpa using hk)).1) HEc.out.size)); have HOd := hid hOd.read; clear hOd hTd hq)
        | (go_at_call 28; have hq := HXa.out; refine (lMarkInts A6 need.length c6 c6 need (1 + (wClus C : Int)) _ _ hq (by omega) (by omega) (by have := HWC.out; omega)).mono ?_; rintro e wb ⟨rfl, _, hTb⟩; rw [← HKK.out]; have HGb : Hid (OI wb w6.heap.size (.slice A7 ys.length c7) ys) := hid (Own.far HGa.out (fun k hk => hTb.block k (Own.lt HGa.out k hk).2 (fun hm => by have a1 := HX6L.out k (by simpa using hm); have a2 := (Own.lt HGa.out k hk).1; omega)) (fun _ _ _ he => he)); have HEb : Hid (Ext w4 wb) := hid (Below.trans HEa.out (hTb.below (fun k hk => Nat.le_trans HL4.out.2.1 (Own.lt hq k (by simpa using hk)).1) HEa.out.size)); clear hTb hq)
        | (go_at_call 27; refine (lMarkClusterD _ C 1 _ _ _ HD5.out (HX5.out.trans (HE6.out.trans H6C.out)) (Nat.le_trans HWC.out (by omega)) (by omega) (by omega)).mono ?_; rintro e wa ⟨L, rfl, _, hL, hN, hTa⟩; have HEa : Hid (Ext w4 wa) := hid (Below.trans H4C.out (hTa.below (fun k hk => (hL k hk).1) H4C.out.size)); have HXa : Hid (OI wa (w5.alloc (.cells #[.slice A5 C.room.length c5, .slice B5 C.units.length d5] 26)).heap.size (.slice A6 need.length c6) need) := hid (Own.far (Own.ext EI.ok HO6.out H6C.out) (fun k hk => hTa.block k (Own.lt (Own.ext EI.ok HO6.out H6C.out) k hk).2 (fun hm => by have a1 := (hL k hm).2; have a2 := (Own.lt HO6.out k hk).1; have a3 := HX5.out.size; omega)) (fun _ _ _ he => he)); have HGa : Hid (OI wa w6.heap.size (.slice A7 ys.length c7) ys) := hid (Own.far (Own.ext EI.ok HO7.out H7C.out) (fun k hk => hTa.block k (Own.lt (Own.ext EI.ok HO7.out H7C.out) k hk).2 (fun hm => by have a1 := (hL k hm).2; have a2 := (Own.lt HO7.out k hk).1; have a3 := HX5.out.size; have a4 := HE6.out.size; omega)) (fun _ _ _ he => he)); clear hTa hL hN)
        | (go_at_call 29; have hq := HEi.out; refine (lHeldInts _ ys.length 1 _ (RI.ext HOd.out hq) (by omega) (by omega) (by omega)).mono ?_; rintro e wj ⟨rfl, hEj⟩; have HEj := hid hEj; clear hEj hq)
        | (go_at_call 29; refine (lHeldInts _ ys.length 1 _ HOd.out (by omega) (by omega) (by omega)).mono ?_; rintro e we ⟨rfl, hEe⟩; have HEe := hid hEe; obtain ⟨hb0, hb1⟩ := KB.out _ (HE4.out.trans (HEd.out.trans hEe)); clear hEe)
        | (go_at_call 23; refine (lToCluster _ C _ (ClusX.ext HC.out (HE4.out.trans (HEd.out.trans HEe.out))) (Nat.le_trans HM.out.1 (by omega)) (Nat.le_trans HM.out.2.1 (by omega)) (fun u hu => ⟨Nat.le_trans (HM.out.2.2.2 u hu).1 (by omega), fun t ht => Nat.le_trans ((HM.out.2.2.2 u hu).2 t ht) (by omega)⟩)).mono ?_; rintro e wf ⟨vf, rfl, hOf, hEf⟩; have HOf := hid hOf.read; have HEf := hid (HEe.out.trans hEf); clear hOf hEf)
        | (go_at_call 31; have hq := HEf.out; refine (lToInts _ need _ (XI.ext HNX.out (HE4.out.trans (HEd.out.trans hq))) (by omega)).mono ?_; rintro e wg ⟨vg, rfl, hOg, hEg⟩; have HOg := hid hOg.read; have HEfg := hid hEg; have HEg := hid (hq.trans hEg); clear hOg hEg hq)
        | (go_at_call 31; refine (lToInts _ need _ (XI.ext HNX.out (HE4.out.trans H4B.out)) (by omega)).mono ?_; rintro e w11 ⟨v11, rfl, hO11, hE11⟩; have HO11 := hid hO11.read; have HE11 := hid hE11; clear hO11 hE11)
        | (go_at_call 44; refine (iScaleIn _ _ C need want _ (HOf.out.ext HEfg.out) HOg.out (Nat.le_trans HM.out.2.1 (by omega)) (Nat.le_trans HM.out.2.2.1 (by omega)) HIR.out).mono ?_; rintro e wh ⟨vh, rfl, hOh, hEh⟩; rw [← HYS.out] at hOh; have HOh := hid hOh.read; have HEh := hid (HEg.out.trans hEh); clear hOh hEh)
        | (go_at_call 25; have hq := HEh.out; refine (lEqInts _ _ ys _ HOh.out (RI.ext HO4.out (HEd.out.trans hq))).mono ?_; rintro e wi ⟨rfl, hEi⟩; have HEi := hid (hq.trans hEi); clear hEi hq)
        | (go_at_call 25; have hq := HEb.out; refine (lEqInts _ _ ys _ HGb.out.read (RI.ext HO4.out hq)).mono ?_; rintro e wc ⟨rfl, hEc⟩; have HGc := hid (Own.ext EI.ok HGb.out hEc); have HEc := hid (hq.trans hEc); clear hEc hq)
        | (go_at_call 25; refine (lEqInts _ _ need _ (RI.ext HO6.out.read (H6B.out.trans HE11.out)) HO11.out).mono ?_; rintro e w12 ⟨rfl, hE12⟩; have H6C := hid (H6B.out.trans (HE11.out.trans hE12)); have H4C := hid (H4B.out.trans (HE11.out.trans hE12)); have H7C := hid (H7B.out.trans (HE11.out.trans hE12)); have x0 := obj_cell (H6C.out.obj (HE6.out.obj HB5.out)) (i := 0) rfl; have x1 := obj_cell (H6C.out.obj (HE6.out.obj HB5.out)) (i := 1) rfl; clear hE12))
      go_ret
      exact ⟨rfl, HEW.out.trans (HE4.out.trans (HEd.out.trans (HEi.out.trans HEj.out)))⟩
  · have in1 : (1048576 : Int) < (need.length : Int) := by omega
    go_enter Try.func9, Try.ntmps9
    go_wp2
    go_ret
    exact ⟨rfl, by rw [← hW]; exact HEW.out⟩

end Go.Proofs.Ytfgibhdglbjadaa
