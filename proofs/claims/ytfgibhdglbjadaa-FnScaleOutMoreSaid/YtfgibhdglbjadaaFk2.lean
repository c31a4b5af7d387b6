/- The law FnScaleOutMore. -/
import Derived.Test.YtfgibhdglbjadaaCd3
import Derived.Test.YtfgibhdglbjadaaSc3
import Derived.Test.YtfgibhdglbjadaaMath4
namespace Go.Proofs.Ytfgibhdglbjadaa
open Go.RowKit
set_option maxRecDepth 4000

set_option maxHeartbeats 4000000 in
theorem lawScaleOutMore (v : Value) (bs : List Int) (w : World) (h : XBy w v bs) :
    Calls Try.prog 10 #[v] w (RetB w true) := by
  have HB := hid h
  obtain ⟨A, c, rfl, _⟩ := h
  by_cases h1 : bs.length ≤ 1048576
  · have i1 : ¬ (1048576 : Int) < (bs.length : Int) := by omega
    go_enter Try.func10, Try.ntmps10
    go_wp2_with (go_at_call 45; refine (dDrawScaleOut _ bs _ HB.out (by omega)).mono ?_; rintro e w1 ⟨cv, nv, C, need, want, rfl, hO, hN, hNL, hNB, hS, hwt, hE⟩; obtain ⟨Ar, cr, Au, cu, rfl⟩ := hO.form; have HN := hid hN.read; obtain ⟨An, cn, rfl, _, _⟩ := hN.form; have HC := hid hO.read; have HS := hid hS; have HE := hid hE; obtain ⟨y0, y1, y0f, y1f, k1, k1f, hkk, _⟩ := box2 (heap_alloc_new w1 (.cells #[.slice none 0 0, .slice none 0 0] 26)) (.slice Ar C.room.length cr) (.slice Au C.units.length cu); clear hkk hO hN hNL hNB hS hE)
    obtain ⟨W, hW⟩ : ∃ W, W = w1.alloc (.cells #[.slice Ar C.room.length cr, .slice Au C.units.length cu] 26) := ⟨_, rfl⟩
    have hEW : Ext w1 W := by rw [hW]; exact Ext.alloc _ _
    have hb0 : W.cell? ⟨w1.heap.size, 0, none⟩ = some (.slice Ar C.room.length cr) := by rw [hW]; exact cell_new _ _ _ 0
    have hb1 : W.cell? ⟨w1.heap.size, 1, none⟩ = some (.slice Au C.units.length cu) := by rw [hW]; exact cell_new _ _ _ 1
    have KB : Hid (∀ w', Ext W w' → w'.cell? ⟨w1.heap.size, 0, none⟩ = some (.slice Ar C.room.length cr) ∧ w'.cell? ⟨w1.heap.size, 1, none⟩ = some (.slice Au C.units.length cu)) := hid fun w' hw => ⟨hw.cell hb0, hw.cell hb1⟩
    have HEW := hid (HE.out.trans hEW)
    have HCW := hid (HC.out.ext hEW)
    have HNW := hid (RI.ext HN.out hEW)
    rw [← hW]
    clear hW y0 y1 y0f y1f k1 k1f hEW
    by_cases hneg : outN C need want < 0
    · go_wp2_with (first
        | (go_at_call 32; refine (iScaleOut _ _ C need want _ HCW.out HNW.out HS.out.len HS.out.flat HS.out.ids).mono ?_; rintro e w2 ⟨rfl, hE2⟩; obtain ⟨hb0, hb1⟩ := KB.out _ hE2; have HE2 := hid hE2; clear hE2)
        | (go_at_call 30; refine (sScaleOut _ _ C need want _ (HCW.out.ext HE2.out) (RI.ext HNW.out HE2.out) HS.out.len HS.out.flat).mono ?_; rintro e w3 ⟨rfl, hE3⟩; obtain ⟨hb0, hb1⟩ := KB.out _ (HE2.out.trans hE3); have HE3 := hid (HE2.out.trans hE3); clear hE3))
      go_ret
      exact ⟨rfl, HEW.out.trans HE3.out⟩
    · have HNEG := hid hneg
      have hnn : 0 ≤ outN C need want := by omega
      by_cases h0 : want = 0
      · have i0 : (want == 0) = true := by simpa using h0
        clear h0
        go_wp2_with (first
          | (go_at_call 32; refine (iScaleOut _ _ C need want _ HCW.out HNW.out HS.out.len HS.out.flat HS.out.ids).mono ?_; rintro e w2 ⟨rfl, hE2⟩; obtain ⟨hb0, hb1⟩ := KB.out _ hE2; have HE2 := hid hE2; clear hE2)
          | (go_at_call 30; refine (sScaleOut _ _ C need want _ (HCW.out.ext HE2.out) (RI.ext HNW.out HE2.out) HS.out.len HS.out.flat).mono ?_; rintro e w3 ⟨rfl, hE3⟩; obtain ⟨hb0, hb1⟩ := KB.out _ (HE2.out.trans hE3); have HE3 := hid (HE2.out.trans hE3); clear hE3))
        go_ret
        exact ⟨rfl, HEW.out.trans HE3.out⟩
      · have i0 : (want == 0) = false := by simpa using h0
        obtain ⟨m1, m2⟩ := out_more hneg h0
        clear h0
        go_wp2_with (first
          | (go_at_call 32; have hq := HE3.out; refine (iScaleOut _ _ C need (want - 1) _ (HCW.out.ext hq) (RI.ext HNW.out hq) HS.out.len HS.out.flat HS.out.ids).mono ?_; rintro e w4 ⟨rfl, hE4⟩; have HE4 := hid (HE3.out.trans hE4); clear hE4)
          | (go_at_call 32; refine (iScaleOut _ _ C need want _ HCW.out HNW.out HS.out.len HS.out.flat HS.out.ids).mono ?_; rintro e w2 ⟨rfl, hE2⟩; obtain ⟨hb0, hb1⟩ := KB.out _ hE2; have HE2 := hid hE2; clear hE2)
          | (go_at_call 30; refine (sScaleOut _ _ C need want _ (HCW.out.ext HE2.out) (RI.ext HNW.out HE2.out) HS.out.len HS.out.flat).mono ?_; rintro e w3 ⟨rfl, hE3⟩; obtain ⟨hb0, hb1⟩ := KB.out _ (HE2.out.trans hE3); have HE3 := hid (HE2.out.trans hE3); clear hE3))
        go_ret
        exact ⟨rfl, HEW.out.trans HE4.out⟩
  · have i1 : (1048576 : Int) < (bs.length : Int) := by omega
    go_enter Try.func10, Try.ntmps10
    go_wp2
    go_ret
    exact ⟨rfl, Ext.refl _⟩

end Go.Proofs.Ytfgibhdglbjadaa
