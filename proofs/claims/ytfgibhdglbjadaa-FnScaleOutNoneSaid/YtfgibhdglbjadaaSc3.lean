/- The program's nodes that would have to be opened. -/
import Derived.Test.YtfgibhdglbjadaaSc2
namespace Go.Proofs.Ytfgibhdglbjadaa
open Go.RowKit
set_option maxRecDepth 4000

set_option maxHeartbeats 1000000 in
theorem iScaleOut (cv nv : Value) (C : ClusD) (need : List Int) (want : Int) (w : World) (h : ClusV w cv C) (hn : RI w nv need) (hl : C.units.length ≤ 4000000) (hfl : (C.units.map (·.tasks)).flatten.length ≤ 4000000) (hid' : ∀ t ∈ (C.units.map (·.tasks)).flatten, IdR t.id) :
    Calls Try.prog 32 #[cv, nv, .int .i64 want] w (RetN w (outN C need want)) := by
  have h0 := h
  obtain ⟨rv, uv, rfl, hr, hu⟩ := h
  have hr0 := hr
  obtain ⟨Ar, cr, rfl, _⟩ := hr
  obtain ⟨A, c, rfl, hc, hc', _⟩ := hu
  obtain ⟨W, hW⟩ : ∃ W, W = w.alloc (.cells #[.slice Ar C.room.length cr, .slice A C.units.length c] 26) := ⟨_, rfl⟩
  have hEW : Ext w W := by rw [hW]; exact Ext.alloc _ _
  have hb0 : W.cell? ⟨w.heap.size, 0, none⟩ = some (.slice Ar C.room.length cr) := by rw [hW]; exact cell_new _ _ _ 0
  have hb1 : W.cell? ⟨w.heap.size, 1, none⟩ = some (.slice A C.units.length c) := by rw [hW]; exact cell_new _ _ _ 1
  have KC : Hid (∀ w', Ext W w' → w'.cell? ⟨w.heap.size, 0, none⟩ = some (.slice Ar C.room.length cr) ∧ w'.cell? ⟨w.heap.size, 1, none⟩ = some (.slice A C.units.length c)) := hid fun w' hw => ⟨hw.cell hb0, hw.cell hb1⟩
  have H0 := hid (h0.ext hEW)
  have HN := hid (hn.ext hEW)
  have HR := hid (hr0.ext hEW)
  have HEW := hid hEW
  clear hr0 h0 hn hEW
  by_cases h1 : clusOk C = true
  · by_cases h2 : needOk need = true
    · have hok : (clusOk C && needOk need) = true := by rw [h1, h2]; rfl
      by_cases h3 : inB want 0 999 = true
      · have HCL := hid h1
        have HNV := hid (show vecOk need = true by simp only [needOk, Bool.and_eq_true] at h2; exact h2.1)
        have HRV := hid (roomOk_vec (clusOk_room h1))
        have HOUT := hid (outN_ok hok h3)
        have hw2 : 0 ≤ want ∧ want ≤ 999 := by simpa [inB] using h3
        obtain ⟨hv1, hv2⟩ := hw2
        have hsb := spare_bd h1 need
        have hfb := full_bd h1 need
        have hlen := (clusOk_len h1).2
        have hol : openN C ≤ C.units.length := openTo_le _ _
        obtain ⟨sp, hsp⟩ : ∃ sp, spareL C need = sp := ⟨_, rfl⟩
        obtain ⟨fu, hfu⟩ : ∃ fu, timesL C.room need = fu := ⟨_, rfl⟩
        obtain ⟨on, hon⟩ : ∃ on, openN C = on := ⟨_, rfl⟩
        rw [hsp] at hsb
        rw [hfu] at hfb
        rw [hon] at hol
        have HS := hid hsp
        have HF := hid (show timesL (leftL C.room []) need = fu by rw [leftL_nil (vecOk_len HRV.out)]; exact hfu)
        have HF0 := hid hfu
        have HO := hid hon
        clear hsp hfu hon hok
        go_enter Try.func32, Try.ntmps32
        go_wp2_with (first
          | (go_at_call 55; rw [← hW]; refine (iClusterValid _ C _ H0.out hl hfl hid').mono ?_; rintro e w1 ⟨rfl, hE1⟩; rw [h1]; obtain ⟨hb0, hb1⟩ := KC.out _ hE1; have HE1 := hid hE1; clear hE1 hW)
          | (go_at_call 56; refine (iNeedValid _ need _ (HN.out.ext HE1.out)).mono ?_; rintro e w2 ⟨rfl, n2, rfl⟩; rw [h2])
          | (go_at_call 72; refine (iWithin _ _ _ _).mono ?_; rintro e w3 ⟨rfl, n3, hw3⟩; rw [h3]; have HE2 : Hid (Ext W w3) := hid (by rw [hw3]; exact (HE1.out.trans (Ext.drewN _ _)).trans (Ext.drewN _ _)); obtain ⟨hb0, hb1⟩ := KC.out _ HE2.out; clear hw3))
        have KH : Hid (∀ w', Ext w3 w' → w'.cell? ⟨w.heap.size, 0, none⟩ = some (.slice Ar C.room.length cr) ∧ w'.cell? ⟨w.heap.size, 1, none⟩ = some (.slice A C.units.length c) ∧ Ext w3 w') := hid fun w' hw => ⟨(KC.out _ (HE2.out.trans hw)).1, (KC.out _ (HE2.out.trans hw)).2, hw⟩
        go_region_held3 (fun w' => w'.cell? ⟨w.heap.size, 0, none⟩ = some (.slice Ar C.room.length cr) ∧ w'.cell? ⟨w.heap.size, 1, none⟩ = some (.slice A C.units.length c) ∧ Ext w3 w')
          (first | exact KH.out _ (by assumption) | exact KH.out _ (Below.drew (Below.refl _ _)))
          (first
            | (go_at_call 57; refine (iSpare _ _ C need _ (H0.out.ext (HE2.out.trans (Below.drew (Below.refl _ _)))) (HN.out.ext (HE2.out.trans (Below.drew (Below.refl _ _)))) HCL.out HNV.out).mono ?_; rintro e w4 ⟨rfl, hE4⟩; rw [HS.out]; have h04 : Ext w3 w4 := Ext.trans (Below.drew (Below.refl _ _)) hE4)
            | (go_at_call 73; refine (iPlacer _ _ C.room need _ (HR.out.ext (HE2.out.trans (by assumption))) (HN.out.ext (HE2.out.trans (by assumption)))).mono ?_; rintro e w5 ⟨b1, b2, rfl, hp1, hp2, hE5⟩; have h05 : Ext w3 w5 := Ext.trans (by assumption) hE5)
            | (go_at_call 113; refine (iPlacer1 _ _ _ [] C.room need b1 b2 _ (RSl.nil_ _ _ _ _ _ _ (by omega)) (HR.out.ext (HE2.out.trans (by assumption))) (HN.out.ext (HE2.out.trans (by assumption))) hp1 hp2 ⟨by simp, by simp⟩ HRV.out HNV.out (by rw [leftL_nil (vecOk_len HRV.out)]; exact vecOk_nn HRV.out)).mono ?_; rintro e w6 ⟨rfl, hE6⟩; rw [HF.out]; have h06 : Ext w3 w6 := Ext.trans (by assumption) hE6))
        have HE6 := hid (HE2.out.trans h06)
        have KI : Hid (∀ w', Ext w6 w' → w'.cell? ⟨w.heap.size, 0, none⟩ = some (.slice Ar C.room.length cr) ∧ w'.cell? ⟨w.heap.size, 1, none⟩ = some (.slice A C.units.length c) ∧ Ext w6 w') := hid fun w' hw => ⟨(KC.out _ (HE6.out.trans hw)).1, (KC.out _ (HE6.out.trans hw)).2, hw⟩
        clear h06 h05 h04
        go_wp2
        go_region_held3 (fun w' => w'.cell? ⟨w.heap.size, 0, none⟩ = some (.slice Ar C.room.length cr) ∧ w'.cell? ⟨w.heap.size, 1, none⟩ = some (.slice A C.units.length c) ∧ Ext w6 w')
          (first | exact KI.out _ (by assumption) | exact KI.out _ (Below.drew (Below.refl _ _)))
          ((go_at_call 74; refine (iOpen _ C _ (H0.out.ext (HE6.out.trans (Below.drew (Below.refl _ _)))) hl).mono ?_; rintro e w7 ⟨rfl, hE7⟩; rw [HO.out]; have h07 : Ext w6 w7 := Ext.trans (Below.drew (Below.refl _ _)) hE7))
        have HE5 := hid (HE6.out.trans h07)
        have hcl1 : (C.units.length : Int) - (on : Int) = ((C.units.length - on : Nat) : Int) := by omega
        have hcl2 : C.units.length - on ≤ 10 := by omega
        obtain ⟨cl, hcl⟩ : ∃ cl, C.units.length - on = cl := ⟨_, rfl⟩
        rw [hcl] at hcl1 hcl2
        have HC1 := hid hcl1
        have HC2 := hid hcl
        clear hcl hcl1
        go_wp2
        rw [HC1.out]
        go_loopw [38] (fun i wr => ∃ k : Nat, k ≤ cl + 1 ∧ i = .int .i64 k ∧ Hid (∀ j : Nat, j < k → sp + (j : Int) * fu < want) ∧ Ext w wr) (fun i _ => cl + 1 - (intOf i).toNat)
        case atStart => exact ⟨0, Nat.zero_le _, rfl, fun j hj => absurd hj (by omega), HEW.out.trans HE5.out⟩
        case round =>
          obtain ⟨k, hk, rfl, H, hE⟩ := hrel
          by_cases hlt : k < cl + 1
          · have hm := mul_bd (k := (k : Int)) (f := fu) (by omega) (by omega) hfb.1 hfb.2
            have g1 : IntKind.i64.wrap ((k : Int) * fu) = (k : Int) * fu := IntWalk.i64_in _ (by omega)
            have g2 : IntKind.i64.wrap (sp + (k : Int) * fu) = sp + (k : Int) * fu := IntWalk.i64_in _ (by omega)
            have i1 : (k : Int) < (cl : Int) + 1 := by omega
            by_cases hp : want ≤ sp + (k : Int) * fu
            · clear hm
              go_wp2
              go_ret
              exact ⟨ret_i (by rw [HOUT.out, HS.out, HF0.out, HO.out, HC2.out]; exact (enough_hit (by omega) hp H.out).symm), hE⟩
            · have hp' : sp + (k : Int) * fu < want := by omega
              clear hm
              go_wp2
              go_roundw
              case rel => exact ⟨k + 1, by omega, by go_num, hid (fun j hj => by
                by_cases hjk : j = k
                · subst hjk; exact hp'
                · exact H.out j (by omega)), hE⟩
              case measure => simp [intOf]; omega
          · have hk' : k = cl + 1 := by omega
            have i1 : ¬ (k : Int) < (cl : Int) + 1 := by omega
            go_wp2
            go_ret
            exact ⟨ret_i (by rw [HOUT.out, HS.out, HF0.out, HO.out, HC2.out, ← hk']; exact (enough_miss H.out).symm), hE⟩
      · have h3 : inB want 0 999 = false := by simpa using h3
        have HOUT := hid (outN_no2 (C := C) (need := need) h3)
        go_enter Try.func32, Try.ntmps32
        go_wp2_with (first
          | (go_at_call 55; rw [← hW]; refine (iClusterValid _ C _ H0.out hl hfl hid').mono ?_; rintro e w1 ⟨rfl, hE1⟩; rw [h1]; obtain ⟨hb0, hb1⟩ := KC.out _ hE1; have HE1 := hid hE1; clear hE1 hW)
          | (go_at_call 56; refine (iNeedValid _ need _ (HN.out.ext HE1.out)).mono ?_; rintro e w2 ⟨rfl, n2, rfl⟩; rw [h2])
          | (go_at_call 72; refine (iWithin _ _ _ _).mono ?_; rintro e w3 ⟨rfl, n3, hw3⟩; rw [h3]; have HE2 : Hid (Ext W w3) := hid (by rw [hw3]; exact (HE1.out.trans (Ext.drewN _ _)).trans (Ext.drewN _ _)); obtain ⟨hb0, hb1⟩ := KC.out _ HE2.out; clear hw3))
        go_ret
        exact ⟨ret_i HOUT.out.symm, HEW.out.trans HE2.out⟩
    · have h2 : needOk need = false := by simpa using h2
      have HOUT := hid (outN_no1 (C := C) (want := want) (show (clusOk C && needOk need) = false by rw [h1, h2]; rfl))
      go_enter Try.func32, Try.ntmps32
      go_wp2_with (first
        | (go_at_call 55; rw [← hW]; refine (iClusterValid _ C _ H0.out hl hfl hid').mono ?_; rintro e w1 ⟨rfl, hE1⟩; rw [h1]; obtain ⟨hb0, hb1⟩ := KC.out _ hE1; have HE1 := hid hE1; clear hE1 hW)
        | (go_at_call 56; refine (iNeedValid _ need _ (HN.out.ext HE1.out)).mono ?_; rintro e w2 ⟨rfl, n2, rfl⟩; rw [h2]))
      go_ret
      exact ⟨ret_i HOUT.out.symm, HEW.out.trans (HE1.out.trans (Ext.drewN _ _))⟩
  · have h1 : clusOk C = false := by simpa using h1
    have HOUT := hid (outN_no1 (C := C) (need := need) (want := want) (show (clusOk C && needOk need) = false by rw [h1]; rfl))
    go_enter Try.func32, Try.ntmps32
    go_wp2_with (go_at_call 55; rw [← hW]; refine (iClusterValid _ C _ H0.out hl hfl hid').mono ?_; rintro e w1 ⟨rfl, hE1⟩; rw [h1]; obtain ⟨hb0, hb1⟩ := KC.out _ hE1; have HE1 := hid hE1; clear hE1 hW)
    go_ret
    exact ⟨ret_i HOUT.out.symm, HEW.out.trans HE1.out⟩

end Go.Proofs.Ytfgibhdglbjadaa
