/- The law FnExactClusterBytes. -/
import Derived.Test.YtfgibhdglbjadaaK22
import Derived.Test.YtfgibhdglbjadaaK21
import Derived.Test.YtfgibhdglbjadaaK20
namespace Go.Proofs.Ytfgibhdglbjadaa
open Go.RowKit
set_option maxRecDepth 4000

theorem cntQ_w : ∀ (qs : List (TaskD × Value)), cntQ qs = wTasks (qs.map (·.1))
  | [] => rfl
  | q :: qs => by
    rw [cntQ_cons, cntQ_w qs]
    simp only [wTasks, sumN, wTask, wInts, List.map_cons, List.length_cons, List.sum_cons]
    omega
theorem cntU_w : ∀ (us : List UnitW), cntU us = wUnits (us.map UnitW.d)
  | [] => rfl
  | u :: us => by
    rw [cntU_cons, cntU_w us, cntQ_w]
    simp only [wUnits, sumN, wUnit, UnitW.d, List.map_cons, List.length_cons, List.sum_cons]
    omega
def byC (C : ClusD) : List Int := if clusOk C then bytesC C else []
theorem byC_len (C : ClusD) : (byC C).length ≤ 1000 := by
  unfold byC
  split
  · rename_i h
    have h1 := flatMap_len unitB 60 C.units (fun u hu => (unitB_60 h hu).1)
    have h2 : C.units.length ≤ 10 := (clusOk_len h).2
    have h3 : C.room.length = 3 := by have := clusOk_room h; simp only [roomOk, Bool.and_eq_true] at this; exact vecOk_len this.2
    rw [bytes_pos]
    unfold bodyB
    rw [List.length_append]
    omega
  · simp
theorem iClusterBytesU (cv : Value) (C : ClusD) (w : World) (h : ClusV w cv C) (hl : C.units.length ≤ 4000000) (hfl : (C.units.map (·.tasks)).flatten.length ≤ 4000000) (hid' : ∀ t ∈ (C.units.map (·.tasks)).flatten, IdR t.id) :
    Calls Try.prog 24 #[cv] w fun e w' => ∃ A n c c', e = .returned (.tuple #[.slice A n c', .bool (clusOk C)]) ∧ OI w' w.heap.size (.slice A n c) (byC C) ∧ (∀ w'' xs, RI w'' (.slice A n c) xs → RI w'' (.slice A n c') xs) ∧ n = (byC C).length ∧ Ext w w' := by
  refine (iClusterBytes cv C w h hl hfl hid').mono fun e w' ⟨h1, h2⟩ => ?_
  cases hc : clusOk C with
  | true =>
    obtain ⟨g, c, he, hO, hE⟩ := h1 hc
    have hb : byC C = bytesC C := by unfold byC; rw [hc]; rfl
    exact ⟨_, _, c, _, he, by rw [hb]; exact hO, fun w'' xs hr => RI.clip hr, by rw [hb, bytes_pos], hE⟩
  | false =>
    obtain ⟨he, hE⟩ := h2 hc
    have hb : byC C = [] := by unfold byC; rw [hc]; rfl
    exact ⟨none, 0, 0, 0, he, by rw [hb]; exact Own.none_ _ _ _ _ _, fun w'' xs hr => hr, by rw [hb]; rfl, hE⟩

set_option maxHeartbeats 8000000 in
theorem lawClusterBytes (cv : Value) (C : ClusD) (w : World) (h : ClusX w cv C) (hid' : ∀ t ∈ (C.units.map (·.tasks)).flatten, IdR t.id) :
    Calls Try.prog 4 #[cv] w (RetB w true) := by
  have h0 := h
  obtain ⟨rv, uv, rfl, hr, hu⟩ := h
  obtain ⟨Ar, cr, rfl, _⟩ := hr
  obtain ⟨Au, cu, rfl, _⟩ := hu
  obtain ⟨W, hW⟩ : ∃ W, W = w.alloc (.cells #[.slice Ar C.room.length cr, .slice Au C.units.length cu] 33) := ⟨_, rfl⟩
  have hEW : Ext w W := by rw [hW]; exact Ext.alloc _ _
  have hb0 : W.cell? ⟨w.heap.size, 0, none⟩ = some (.slice Ar C.room.length cr) := by rw [hW]; exact cell_new _ _ _ 0
  have hb1 : W.cell? ⟨w.heap.size, 1, none⟩ = some (.slice Au C.units.length cu) := by rw [hW]; exact cell_new _ _ _ 1
  have KB : Hid (∀ w', Ext W w' → w'.cell? ⟨w.heap.size, 0, none⟩ = some (.slice Ar C.room.length cr) ∧ w'.cell? ⟨w.heap.size, 1, none⟩ = some (.slice Au C.units.length cu)) := hid fun w' hw => ⟨hw.cell hb0, hw.cell hb1⟩
  have HC := hid (h0.ext hEW)
  have HEW := hid hEW
  have HIR := hid hid'
  obtain ⟨B, hB⟩ : ∃ B, B = clusOk C := ⟨_, rfl⟩
  have HB := hid hB
  have hBB : (B != B) = false := by cases B <;> rfl
  have HYL := hid (byC_len C)
  clear h0 hEW hid' hB
  go_enter Try.func4, Try.ntmps4
  go_wp2_with (first
    | (go_at_call 21; rw [← hW]; refine (lSzClus _ C 1048576 _ HC.out (by omega) (by omega)).mono ?_; rintro e w1 ⟨r, rfl, hE1, hr1, hr2, hr3⟩; obtain ⟨hb0, hb1⟩ := KB.out _ hE1; have HE1 := hid hE1; have HR3 := hid hr3; clear hE1 hr3 hW)
    | (go_at_call 23; have hq := HE3.out; refine (lToClusterD _ C _ (ClusX.ext HC.out hq) (Nat.le_trans HM.out.1 (by omega)) (Nat.le_trans HM.out.2.1 (by omega)) (fun u hu => ⟨Nat.le_trans (HM.out.2.2.2 u hu).1 (by omega), fun t ht => Nat.le_trans ((HM.out.2.2.2 u hu).2 t ht) (by omega)⟩)).mono ?_; rintro e w4 ⟨v4, rfl, hD4, hE4⟩; have HD4 := hid hD4; have HE4 := hid hE4; obtain ⟨A4, c4, A5, c5, hv4⟩ := hD4.form; subst hv4; clear hD4 hE4 hq)
    | (go_at_call 23; have HM := hid (wClus_bd (C := C) (M := 1048576) (by have := HR3.out (by omega); omega)); have HWC := hid (show wClus C ≤ 1048576 by have := HR3.out (by omega); omega); refine (lToCluster _ C _ (ClusX.ext HC.out HE1.out) (Nat.le_trans HM.out.1 (by omega)) (Nat.le_trans HM.out.2.1 (by omega)) (fun u hu => ⟨Nat.le_trans (HM.out.2.2.2 u hu).1 (by omega), fun t ht => Nat.le_trans ((HM.out.2.2.2 u hu).2 t ht) (by omega)⟩)).mono ?_; rintro e w2 ⟨v2, rfl, hO2, hE2⟩; have HO2 := hid hO2.read; have HE2 := hid (HE1.out.trans hE2); clear hO2 hE2)
    | (go_at_call 22; refine (sClusterBytes _ C _ HO2.out (Nat.le_trans HM.out.2.1 (by omega)) (Nat.le_trans HM.out.2.2.1 (by omega))).mono ?_; rintro e w3 ⟨v3, rfl, hO3, hE3⟩; rw [← HB.out]; have HO3 : Hid (RI w3 v3 (byC C)) := hid hO3.read; have HE3 := hid (HE2.out.trans hE3); obtain ⟨hb0, hb1⟩ := KB.out _ HE3.out; clear hE3 hO3)
    | (go_at_call 24; have hX := Ext.alloc w4 (.cells #[.slice A4 C.room.length c4, .slice A5 C.units.length c5] 26); refine (iClusterBytesU _ C _ ((HD4.out.ext hX).read) (Nat.le_trans HM.out.2.1 (by omega)) (Nat.le_trans HM.out.2.2.1 (by omega)) HIR.out).mono ?_; rintro e w5 ⟨A, n, c, c', rfl, hO5, hcl, hn5, hE5⟩; rw [← HB.out]; have HO5 := hid hO5; have HCL := hid hcl; have HN5 := hid hn5; have HX0 := hid (hE5.obj (heap_alloc_new w4 (.cells #[.slice A4 C.room.length c4, .slice A5 C.units.length c5] 26))); have HE5 := hid (hX.trans hE5); clear hX hO5 hcl hn5 hE5)
    | (go_at_call 25; refine (lEqInts _ _ (byC C) _ (HCL.out _ _ HO5.out.read) (RI.ext HO3.out (HE4.out.trans HE5.out))).mono ?_; rintro e w6 ⟨rfl, hE6⟩; have HE6 := hid hE6; have hx0 := obj_cell (hE6.obj HX0.out) (i := 0) rfl; have hx1 := obj_cell (hE6.obj HX0.out) (i := 1) rfl; obtain ⟨hb0, hb1⟩ := KB.out _ (HE3.out.trans (HE4.out.trans (HE5.out.trans hE6))); clear hE6))
  · go_ret
    exact ⟨rfl, HEW.out.trans HE1.out⟩
  · have KX : Hid (∀ w', Ext w6 w' → w'.cell? ⟨w4.heap.size, 0, none⟩ = some (.slice A4 C.room.length c4) ∧ w'.cell? ⟨w4.heap.size, 1, none⟩ = some (.slice A5 C.units.length c5) ∧ w'.cell? ⟨w.heap.size, 0, none⟩ = some (.slice Ar C.room.length cr) ∧ w'.cell? ⟨w.heap.size, 1, none⟩ = some (.slice Au C.units.length cu) ∧ Ext w6 w') := hid fun w' hw => ⟨hw.cell hx0, hw.cell hx1, hw.cell hb0, hw.cell hb1, hw⟩
    have H46 := hid (HE5.out.trans HE6.out)
    have HW6 := hid (HE3.out.trans (HE4.out.trans H46.out))
    have hD0 : Ext w6 w6.drew := Below.drew (Below.refl _ _)
    go_region_held3 (fun w' => w'.cell? ⟨w4.heap.size, 0, none⟩ = some (.slice A4 C.room.length c4) ∧ w'.cell? ⟨w4.heap.size, 1, none⟩ = some (.slice A5 C.units.length c5) ∧ w'.cell? ⟨w.heap.size, 0, none⟩ = some (.slice Ar C.room.length cr) ∧ w'.cell? ⟨w.heap.size, 1, none⟩ = some (.slice Au C.units.length cu) ∧ Ext w6 w')
      (first | exact KX.out _ (by assumption) | exact KX.out _ (Below.drew (Below.refl _ _)))
      (first
        | (go_at_call 23; refine (lToCluster _ C _ (ClusX.ext HC.out (HW6.out.trans (Below.drew (Below.refl _ _)))) (Nat.le_trans HM.out.1 (by omega)) (Nat.le_trans HM.out.2.1 (by omega)) (fun u hu => ⟨Nat.le_trans (HM.out.2.2.2 u hu).1 (by omega), fun t ht => Nat.le_trans ((HM.out.2.2.2 u hu).2 t ht) (by omega)⟩)).mono ?_; rintro e w8 ⟨v8, rfl, hO8, hE8⟩; have HO8 := hid hO8.read; have h08 : Ext w6 w8 := Ext.trans (Below.drew (Below.refl _ _)) hE8; clear hO8 hE8)
        | (go_at_call 26; refine (lEqClus _ _ C _ ((HD4.out.ext (H46.out.trans (by assumption))).read) HO8.out).mono ?_; rintro e w9 ⟨rfl, hE9⟩; have h09 : Ext w6 w9 := Ext.trans (by assumption) hE9))
    obtain ⟨x0, x1, b0, b1, _⟩ := KX.out _ h09
    obtain ⟨rv4, uv4, us, he4, d1, d2, d3, d4, d5⟩ := HD4.out
    injection he4 with he4
    injection he4 with he4
    injection he4 with e1 he4
    injection he4 with e2 _
    subst e1 e2
    have H49 := hid (H46.out.trans h09)
    have HE39 := hid (HE4.out.trans H49.out)
    have HSZ : Hid (w3.heap.size ≤ w4.heap.size ∧ W.heap.size ≤ w3.heap.size ∧ (w4.alloc (.cells #[.slice A4 C.room.length c4, .slice A5 C.units.length c5] 26)).heap.size = w4.heap.size + 1) := hid ⟨HE4.out.size, HE3.out.size, by simp⟩
    obtain ⟨L, hL⟩ : ∃ L, L = (Value.slice A4 C.room.length c4).ownBlock.toList ++ ((Value.slice A5 C.units.length c5).ownBlock.toList ++ (taskBs us ++ intBs us)) := ⟨_, rfl⟩
    have HL : Hid (∀ k ∈ L, w3.heap.size ≤ k ∧ k < w4.heap.size) := hid (by
      intro k hk
      rw [hL] at hk
      rcases List.mem_append.1 hk with hk | hk
      · exact Own.lt d1 k (by simpa using hk)
      · rcases List.mem_append.1 hk with hk | hk
        · exact Own.lt d2 k (by simpa using hk)
        · rcases List.mem_append.1 hk with hk | hk
          · exact ODU.tlt d2 k hk
          · exact ODU.ilt d2 k hk)
    have HD1 := hid (Own.ext EI.ok d1 H49.out)
    have HD2 := hid (Own.ext (EDU.ok _) d2 H49.out)
    have HD4' := hid d4
    have HD5 := hid d5
    have HLU : Hid (cntU us ≤ 1048576) := hid (by rw [cntU_w, d3]; have := HWC.out; unfold wClus at this; omega)
    have HG9 := hid (Own.ext EI.ok HO5.out (HE6.out.trans h09))
    have HL1 := hid hL
    have HNB : Hid (n ≤ 1000) := hid (by rw [HN5.out]; exact HYL.out)
    have hnb : n ≤ 1000 := HNB.out
    have hn0 : ¬ (1 + (n : Int)) < 0 := by omega
    have hne : ((1 + (n : Int)) != (1 + (n : Int))) = false := by simp
    have hrl : C.room.length ≤ 1048576 := HM.out.1
    have HRL := hid hrl
    obtain ⟨kk, hkk⟩ : ∃ kk : Int, kk = 1 + (C.room.length : Int) + (cntU us : Int) := ⟨_, rfl⟩
    have hkk0 : ¬ kk < 0 := by omega
    have HKK := hid hkk
    clear d1 d2 d3 d4 d5 hL hkk hrl
    go_wp2_with (first
      | (go_at_call 27; refine (lMarkCluster _ _ C.room us 1 _ w3.heap.size HD1.out HD2.out HD4'.out HD5.out (Nat.le_trans HRL.out (by omega)) (Nat.le_trans HLU.out (by omega)) (by omega) (by omega)).mono ?_; rintro e wa ⟨rfl, _, _, hTa⟩; rw [← HKK.out]; rw [← HL1.out] at hTa; have HEa : Hid (Ext w3 wa) := hid (Below.trans HE39.out (hTa.below (fun k hk => (HL.out k hk).1) HE39.out.size)); have HGa := hid (Own.farI HG9.out (fun k hk => hTa.block k (Own.lt HG9.out k hk).2 (fun hm => by have a1 := (HL.out k hm).2; have a2 := (Own.lt HO5.out k hk).1; have a3 := HSZ.out.2.2; omega))); clear hTa x0 x1 b0 b1)
      | (go_at_call 28; refine (lMarkInts A n c c' (byC C) 1 _ _ HGb.out (by omega) (by omega) (by omega)).mono ?_; rintro e wc ⟨rfl, hOc, hTc⟩; have HEc : Hid (Ext w3 wc) := hid (Below.trans HEb.out (hTc.below (fun k hk => by have a2 := (Own.lt HO5.out k (by simpa using hk)).1; have a3 := HSZ.out; omega) HEb.out.size)); have HOc := hid hOc.read; clear hOc hTc)
      | (go_at_call 29; refine (lHeldInts _ n 1 _ (HCL.out _ _ (RI.ext HOc.out HEg.out)) (by omega) (by omega) (by omega)).mono ?_; rintro e wh ⟨rfl, hEh⟩; have HEh := hid hEh; clear hEh)
      | (go_at_call 29; refine (lHeldInts _ n 1 _ (HCL.out _ _ HOc.out) (by omega) (by omega) (by omega)).mono ?_; rintro e wd ⟨rfl, hEd⟩; have HEd := hid hEd; obtain ⟨hb0, hb1⟩ := KB.out _ (HE3.out.trans (HEc.out.trans hEd)); clear hEd)
      | (go_at_call 23; refine (lToCluster _ C _ (ClusX.ext HC.out (HE3.out.trans (HEc.out.trans HEd.out))) (Nat.le_trans HM.out.1 (by omega)) (Nat.le_trans HM.out.2.1 (by omega)) (fun u hu => ⟨Nat.le_trans (HM.out.2.2.2 u hu).1 (by omega), fun t ht => Nat.le_trans ((HM.out.2.2.2 u hu).2 t ht) (by omega)⟩)).mono ?_; rintro e we ⟨ve, rfl, hOe, hEe⟩; have HOe := hid hOe.read; have HEe := hid (HEd.out.trans hEe); clear hOe hEe)
      | (go_at_call 24; refine (iClusterBytesU _ C _ HOe.out (Nat.le_trans HM.out.2.1 (by omega)) (Nat.le_trans HM.out.2.2.1 (by omega)) HIR.out).mono ?_; rintro e wf ⟨A2, n2, c2, c2', rfl, hO2, hcl2, hn2, hEf⟩; rw [← HB.out]; have HOf := hid (hcl2 _ _ hO2.read); have HEf := hid (HEe.out.trans hEf); clear hO2 hcl2 hn2 hEf)
      | (go_at_call 25; refine (lEqInts _ _ (byC C) _ HOf.out (RI.ext HO3.out (HEc.out.trans HEf.out))).mono ?_; rintro e wg ⟨rfl, hEg⟩; have HEg := hid (HEf.out.trans hEg); clear hEg)
      | (go_at_call 25; refine (lEqInts _ _ (byC C) _ (HCL.out _ _ HGa.out.read) (RI.ext HO3.out HEa.out)).mono ?_; rintro e wb ⟨rfl, hEb⟩; have HGb := hid (Own.ext EI.ok HGa.out hEb); have HEb := hid (HEa.out.trans hEb); clear hEb))
    go_ret
    exact ⟨rfl, HEW.out.trans (HE3.out.trans (HEc.out.trans (HEg.out.trans HEh.out)))⟩

end Go.Proofs.Ytfgibhdglbjadaa
