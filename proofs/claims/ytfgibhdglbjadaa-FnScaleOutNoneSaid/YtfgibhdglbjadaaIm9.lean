/- The program's count of spare room. -/
import Derived.Test.YtfgibhdglbjadaaIm8
namespace Go.Proofs.Ytfgibhdglbjadaa
open Go.RowKit
set_option maxRecDepth 4000

set_option maxHeartbeats 1000000 in
theorem iSpareCount (cv nv : Value) (C : ClusD) (need : List Int) (w : World) (h : ClusV w cv C) (hn : RI w nv need) (hl : C.units.length ≤ 4000000) (hfl : (C.units.map (·.tasks)).flatten.length ≤ 4000000) (hid' : ∀ t ∈ (C.units.map (·.tasks)).flatten, IdR t.id) :
    Calls Try.prog 19 #[cv, nv] w (RetN w (spareN C need)) := by
  have h0 := h
  obtain ⟨rv, uv, rfl, hr, hu⟩ := h
  have hr0 := hr
  obtain ⟨Ar, cr, rfl, _⟩ := hr
  obtain ⟨A, c, rfl, _⟩ := hu
  obtain ⟨W, hW⟩ : ∃ W, W = w.alloc (.cells #[.slice Ar C.room.length cr, .slice A C.units.length c] 26) := ⟨_, rfl⟩
  have hEW : Ext w W := by rw [hW]; exact Ext.alloc _ _
  have hb0 : W.cell? ⟨w.heap.size, 0, none⟩ = some (.slice Ar C.room.length cr) := by rw [hW]; exact cell_new _ _ _ 0
  have hb1 : W.cell? ⟨w.heap.size, 1, none⟩ = some (.slice A C.units.length c) := by rw [hW]; exact cell_new _ _ _ 1
  have H0 := hid (h0.ext hEW)
  have HN := hid (hn.ext hEW)
  have HEW := hid hEW
  clear hr0 h0 hn hEW
  by_cases h1 : clusOk C = true
  · by_cases h2 : needOk need = true
    · have HND := hid (show vecOk need = true by simp only [needOk, Bool.and_eq_true] at h2; exact h2.1)
      have HSP := hid (show spareN C need = spareL C need by unfold spareN; rw [h1, h2]; rfl)
      go_enter Try.func19, Try.ntmps19
      go_wp2_with (first | (go_at_call 55; rw [← hW]; refine (iClusterValid _ C _ H0.out hl hfl hid').mono ?_; rintro e w1 ⟨rfl, hE1⟩; rw [h1]; have hb0 := hE1.cell hb0; have hb1 := hE1.cell hb1; have HE1 := hid hE1; clear hE1) | (go_at_call 56; refine (iNeedValid _ need _ (HN.out.ext HE1.out)).mono ?_; rintro e w2 ⟨rfl, n2, rfl⟩; rw [h2]) | (go_at_call 57; refine (iSpare _ _ C need _ (H0.out.ext (HE1.out.trans (Ext.drewN _ _))) (HN.out.ext (HE1.out.trans (Ext.drewN _ _))) h1 HND.out).mono ?_; rintro e w3 ⟨rfl, hE3⟩))
      go_ret
      exact ⟨ret_i HSP.out.symm, HEW.out.trans ((HE1.out.trans (Ext.drewN _ _)).trans hE3)⟩
    · have h2 : needOk need = false := by simpa using h2
      have HSP := hid (show spareN C need = -1 by unfold spareN; rw [h1, h2]; rfl)
      go_enter Try.func19, Try.ntmps19
      go_wp2_with (first | (go_at_call 55; rw [← hW]; refine (iClusterValid _ C _ H0.out hl hfl hid').mono ?_; rintro e w1 ⟨rfl, hE1⟩; rw [h1]; have hb0 := hE1.cell hb0; have hb1 := hE1.cell hb1; have HE1 := hid hE1; clear hE1) | (go_at_call 56; refine (iNeedValid _ need _ (HN.out.ext HE1.out)).mono ?_; rintro e w2 ⟨rfl, n2, rfl⟩; rw [h2]))
      go_ret
      exact ⟨ret_i HSP.out.symm, HEW.out.trans (HE1.out.trans (Ext.drewN _ _))⟩
  · have h1 : clusOk C = false := by simpa using h1
    have HSP := hid (show spareN C need = -1 by unfold spareN; rw [h1]; rfl)
    go_enter Try.func19, Try.ntmps19
    go_wp2_with (first | (go_at_call 55; rw [← hW]; refine (iClusterValid _ C _ H0.out hl hfl hid').mono ?_; rintro e w1 ⟨rfl, hE1⟩; rw [h1]; have hb0 := hE1.cell hb0; have hb1 := hE1.cell hb1; have HE1 := hid hE1; clear hE1))
    go_ret
    exact ⟨ret_i HSP.out.symm, HEW.out.trans HE1.out⟩

end Go.Proofs.Ytfgibhdglbjadaa
