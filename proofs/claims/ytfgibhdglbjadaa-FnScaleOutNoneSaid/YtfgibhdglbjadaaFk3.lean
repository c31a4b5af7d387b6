/- The law FnScaleOutNone. -/
import Derived.Test.YtfgibhdglbjadaaCd3
import Derived.Test.YtfgibhdglbjadaaSc3
import Derived.Test.YtfgibhdglbjadaaIm9
import Derived.Test.YtfgibhdglbjadaaMath4
namespace Go.Proofs.Ytfgibhdglbjadaa
open Go.RowKit
set_option maxRecDepth 4000

set_option maxHeartbeats 4000000 in
theorem lawScaleOutNone (v : Value) (bs : List Int) (w : World) (h : XBy w v bs) :
    Calls Try.prog 11 #[v] w (RetB w true) := by
  have HB := hid h
  obtain ⟨A, c, rfl, _⟩ := h
  by_cases h1 : bs.length ≤ 1048576
  · have i1 : ¬ (1048576 : Int) < (bs.length : Int) := by omega
    go_enter Try.func11, Try.ntmps11
    go_wp2_with (go_at_call 45; refine (dDrawScaleOut _ bs _ HB.out (by omega)).mono ?_; rintro e w1 ⟨cv, nv, C, need, want, rfl, hO, hN, hNL, hNB, hS, hwt, hE⟩; obtain ⟨Ar, cr, Au, cu, rfl⟩ := hO.form; have HN := hid hN.read; obtain ⟨An, cn, rfl, _, _⟩ := hN.form; have HC := hid hO.read; have HS := hid hS; have HE := hid hE; obtain ⟨y0, y1, y0f, y1f, k1, k1f, hkk, _⟩ := box2 (heap_alloc_new w1 (.cells #[.slice none 0 0, .slice none 0 0] 26)) (.slice Ar C.room.length cr) (.slice Au C.units.length cu); clear hkk hO hN hNL hNB hS hE)
    obtain ⟨W, hW⟩ : ∃ W, W = w1.alloc (.cells #[.slice Ar C.room.length cr, .slice Au C.units.length cu] 26) := ⟨_, rfl⟩
    have hEW : Ext w1 W := by rw [hW]; exact Ext.alloc _ _
    have hb0 : W.cell? ⟨w1.heap.size, 0, none⟩ = some (.slice Ar C.room.length cr) := by rw [hW]; exact cell_new _ _ _ 0
    have hb1 : W.cell? ⟨w1.heap.size, 1, none⟩ = some (.slice Au C.units.length cu) := by rw [hW]; exact cell_new _ _ _ 1
    have KB : Hid (∀ w', Ext W w' → w'.cell? ⟨w1.heap.size, 0, none⟩ = some (.slice Ar C.room.length cr) ∧ w'.cell? ⟨w1.heap.size, 1, none⟩ = some (.slice Au C.units.length cu)) := hid fun w' hw => ⟨hw.cell hb0, hw.cell hb1⟩
    have HEW := hid (HE.out.trans hEW)
    have HCW := hid (HC.out.ext hEW)
    have HNW := hid (RI.ext HN.out hEW)
    rw [← hW]
    clear hW y0 y1 y0f y1f k1 k1f hEW
    by_cases hv : clusOk C = true
    · by_cases hneg : spareN C need < 0
      · go_wp2_with (first
          | (go_at_call 32; refine (iScaleOut _ _ C need want _ HCW.out HNW.out HS.out.len HS.out.flat HS.out.ids).mono ?_; rintro e w2 ⟨rfl, hE2⟩; obtain ⟨hb0, hb1⟩ := KB.out _ hE2; have HE2 := hid hE2; clear hE2)
          | (go_at_call 30; refine (sScaleOut _ _ C need want _ (HCW.out.ext HE2.out) (RI.ext HNW.out HE2.out) HS.out.len HS.out.flat).mono ?_; rintro e w3 ⟨rfl, hE3⟩; obtain ⟨hb0, hb1⟩ := KB.out _ (HE2.out.trans hE3); have HE3 := hid (HE2.out.trans hE3); clear hE3)
          | (go_at_call 42; refine (sClusterValid _ C _ (HCW.out.ext HE3.out) HS.out.len HS.out.flat).mono ?_; rintro e w4 ⟨rfl, hE4⟩; rw [hv]; obtain ⟨hb0, hb1⟩ := KB.out _ (HE3.out.trans hE4); have HE4 := hid (HE3.out.trans hE4); clear hE4)
          | (go_at_call 20; refine (sSpareCount _ _ C need _ (HCW.out.ext HE4.out) (RI.ext HNW.out HE4.out) HS.out.len HS.out.flat).mono ?_; rintro e w5 ⟨rfl, hE5⟩; obtain ⟨hb0, hb1⟩ := KB.out _ (HE4.out.trans hE5); have HE5 := hid (HE4.out.trans hE5); clear hE5))
        go_ret
        exact ⟨rfl, HEW.out.trans HE5.out⟩
      · obtain ⟨_, hn2, hn3⟩ := spareN_ge hneg
        have hnn : 0 ≤ spareN C need := by omega
        have HN3 := hid hn3
        clear hneg hn3
        by_cases hw : inB want 0 999 = true
        · have HOUT := hid (out_none (c := C) (need := need) (by rw [hv, hn2]; rfl) hw)
          simp only [inB, Bool.and_eq_true, decide_eq_true_eq] at hw
          obtain ⟨w0, w9⟩ := hw
          go_wp2_with (first
            | (go_at_call 32; refine (iScaleOut _ _ C need want _ HCW.out HNW.out HS.out.len HS.out.flat HS.out.ids).mono ?_; rintro e w2 ⟨rfl, hE2⟩; obtain ⟨hb0, hb1⟩ := KB.out _ hE2; have HE2 := hid hE2; clear hE2)
            | (go_at_call 30; refine (sScaleOut _ _ C need want _ (HCW.out.ext HE2.out) (RI.ext HNW.out HE2.out) HS.out.len HS.out.flat).mono ?_; rintro e w3 ⟨rfl, hE3⟩; obtain ⟨hb0, hb1⟩ := KB.out _ (HE2.out.trans hE3); have HE3 := hid (HE2.out.trans hE3); clear hE3)
            | (go_at_call 42; refine (sClusterValid _ C _ (HCW.out.ext HE3.out) HS.out.len HS.out.flat).mono ?_; rintro e w4 ⟨rfl, hE4⟩; rw [hv]; obtain ⟨hb0, hb1⟩ := KB.out _ (HE3.out.trans hE4); have HE4 := hid (HE3.out.trans hE4); clear hE4)
            | (go_at_call 20; refine (sSpareCount _ _ C need _ (HCW.out.ext HE4.out) (RI.ext HNW.out HE4.out) HS.out.len HS.out.flat).mono ?_; rintro e w5 ⟨rfl, hE5⟩; obtain ⟨hb0, hb1⟩ := KB.out _ (HE4.out.trans hE5); have HE5 := hid (HE4.out.trans hE5); clear hE5)
            | (go_at_call 19; refine (iSpareCount _ _ C need _ (HCW.out.ext HE5.out) (RI.ext HNW.out HE5.out) HS.out.len HS.out.flat HS.out.ids).mono ?_; rintro e w6 ⟨rfl, hE6⟩; have HE6 := hid (HE5.out.trans hE6); clear hE6))
          go_ret
          refine ⟨ret_b ?_, HEW.out.trans HE6.out⟩
          have h3 := HOUT.out
          rw [← HN3.out] at h3
          by_cases ha : want ≤ spareN C need
          · have hb : outN C need want = 0 := by simpa [ha] using h3
            simp [ha, hb]
          · have hb : ¬ outN C need want = 0 := by simpa [ha] using h3
            simp [ha, hb]
        · have hw2 : want < 0 ∨ 999 < want := by
            simp only [inB, Bool.and_eq_true, decide_eq_true_eq] at hw
            omega
          clear hw
          rcases hw2 with hw2 | hw2
          · go_wp2_with (first
              | (go_at_call 32; refine (iScaleOut _ _ C need want _ HCW.out HNW.out HS.out.len HS.out.flat HS.out.ids).mono ?_; rintro e w2 ⟨rfl, hE2⟩; obtain ⟨hb0, hb1⟩ := KB.out _ hE2; have HE2 := hid hE2; clear hE2)
              | (go_at_call 30; refine (sScaleOut _ _ C need want _ (HCW.out.ext HE2.out) (RI.ext HNW.out HE2.out) HS.out.len HS.out.flat).mono ?_; rintro e w3 ⟨rfl, hE3⟩; obtain ⟨hb0, hb1⟩ := KB.out _ (HE2.out.trans hE3); have HE3 := hid (HE2.out.trans hE3); clear hE3)
              | (go_at_call 42; refine (sClusterValid _ C _ (HCW.out.ext HE3.out) HS.out.len HS.out.flat).mono ?_; rintro e w4 ⟨rfl, hE4⟩; rw [hv]; obtain ⟨hb0, hb1⟩ := KB.out _ (HE3.out.trans hE4); have HE4 := hid (HE3.out.trans hE4); clear hE4)
              | (go_at_call 20; refine (sSpareCount _ _ C need _ (HCW.out.ext HE4.out) (RI.ext HNW.out HE4.out) HS.out.len HS.out.flat).mono ?_; rintro e w5 ⟨rfl, hE5⟩; obtain ⟨hb0, hb1⟩ := KB.out _ (HE4.out.trans hE5); have HE5 := hid (HE4.out.trans hE5); clear hE5))
            go_ret
            exact ⟨rfl, HEW.out.trans HE5.out⟩
          · have hw3 : ¬ want < 0 := by omega
            go_wp2_with (first
              | (go_at_call 32; refine (iScaleOut _ _ C need want _ HCW.out HNW.out HS.out.len HS.out.flat HS.out.ids).mono ?_; rintro e w2 ⟨rfl, hE2⟩; obtain ⟨hb0, hb1⟩ := KB.out _ hE2; have HE2 := hid hE2; clear hE2)
              | (go_at_call 30; refine (sScaleOut _ _ C need want _ (HCW.out.ext HE2.out) (RI.ext HNW.out HE2.out) HS.out.len HS.out.flat).mono ?_; rintro e w3 ⟨rfl, hE3⟩; obtain ⟨hb0, hb1⟩ := KB.out _ (HE2.out.trans hE3); have HE3 := hid (HE2.out.trans hE3); clear hE3)
              | (go_at_call 42; refine (sClusterValid _ C _ (HCW.out.ext HE3.out) HS.out.len HS.out.flat).mono ?_; rintro e w4 ⟨rfl, hE4⟩; rw [hv]; obtain ⟨hb0, hb1⟩ := KB.out _ (HE3.out.trans hE4); have HE4 := hid (HE3.out.trans hE4); clear hE4)
              | (go_at_call 20; refine (sSpareCount _ _ C need _ (HCW.out.ext HE4.out) (RI.ext HNW.out HE4.out) HS.out.len HS.out.flat).mono ?_; rintro e w5 ⟨rfl, hE5⟩; obtain ⟨hb0, hb1⟩ := KB.out _ (HE4.out.trans hE5); have HE5 := hid (HE4.out.trans hE5); clear hE5))
            go_ret
            exact ⟨rfl, HEW.out.trans HE5.out⟩
    · have hv : clusOk C = false := by simpa using hv
      go_wp2_with (first
        | (go_at_call 32; refine (iScaleOut _ _ C need want _ HCW.out HNW.out HS.out.len HS.out.flat HS.out.ids).mono ?_; rintro e w2 ⟨rfl, hE2⟩; obtain ⟨hb0, hb1⟩ := KB.out _ hE2; have HE2 := hid hE2; clear hE2)
        | (go_at_call 30; refine (sScaleOut _ _ C need want _ (HCW.out.ext HE2.out) (RI.ext HNW.out HE2.out) HS.out.len HS.out.flat).mono ?_; rintro e w3 ⟨rfl, hE3⟩; obtain ⟨hb0, hb1⟩ := KB.out _ (HE2.out.trans hE3); have HE3 := hid (HE2.out.trans hE3); clear hE3)
        | (go_at_call 42; refine (sClusterValid _ C _ (HCW.out.ext HE3.out) HS.out.len HS.out.flat).mono ?_; rintro e w4 ⟨rfl, hE4⟩; rw [hv]; obtain ⟨hb0, hb1⟩ := KB.out _ (HE3.out.trans hE4); have HE4 := hid (HE3.out.trans hE4); clear hE4))
      go_ret
      exact ⟨rfl, HEW.out.trans HE4.out⟩
  · have i1 : (1048576 : Int) < (bs.length : Int) := by omega
    go_enter Try.func11, Try.ntmps11
    go_wp2
    go_ret
    exact ⟨rfl, Ext.refl _⟩

end Go.Proofs.Ytfgibhdglbjadaa
