/- The program's clusters. -/
import Derived.Test.YtfgibhdglbjadaaIm6
namespace Go.Proofs.Ytfgibhdglbjadaa
open Go.RowKit
set_option maxRecDepth 4000

theorem any_not_all (us : List UnitD) : (!us.any fun u => !u.opened && decide (0 < u.tasks.length)) = us.all fun u => u.opened || u.tasks.isEmpty := by
  rw [List.not_any_eq_all_not]
  congr 1
  funext u
  cases u.opened <;> cases hu : u.tasks <;> simp

set_option maxHeartbeats 1000000 in
theorem iClusterValid (cv : Value) (C : ClusD) (w : World) (h : ClusV w cv C) (hl : C.units.length ≤ 4000000) (hfl : (C.units.map (·.tasks)).flatten.length ≤ 4000000) (hid' : ∀ t ∈ (C.units.map (·.tasks)).flatten, IdR t.id) :
    Calls Try.prog 55 #[cv] w (RetB w (clusOk C)) := by
  have h00 := h
  obtain ⟨rv, uv, rfl, hr, hu⟩ := h
  have hu0 := hu
  obtain ⟨A, c, rfl, hc, hc', hg⟩ := hu.get
  have hE0 := Ext.alloc w (.cells #[rv, .slice A C.units.length c] 26)
  have hb0 := cell_new w #[rv, .slice A C.units.length c] 26 0
  have hb1 := cell_new w #[rv, .slice A C.units.length c] 26 1
  simp only [List.getElem?_toArray, List.getElem?_cons_succ, List.getElem?_cons_zero] at hb0 hb1
  have hr0 := hr
  obtain ⟨Ar, cr, rfl, _⟩ := hr
  have hr := hr0
  clear hr0
  obtain ⟨W, hW⟩ : ∃ W, W = w.alloc (.cells #[.slice Ar C.room.length cr, .slice A C.units.length c] 26) := ⟨_, rfl⟩
  have HH := hid h00
  have KH : Hid (∀ w', Ext W w' → w'.cell? ⟨w.heap.size, 0, none⟩ = some (.slice Ar C.room.length cr) ∧ w'.cell? ⟨w.heap.size, 1, none⟩ = some (.slice A C.units.length c) ∧ Ext W w') :=
    hid fun w' hw => ⟨hw.cell (by rw [hW]; exact hb0), hw.cell (by rw [hW]; exact hb1), hw⟩
  have hEW : Ext w W := by rw [hW]; exact hE0
  rw [← hW] at hb0 hb1
  have HR := hid (hr.ext hEW)
  have HU := hid (hu0.ext hEW)
  clear hu hu0 hr hE0 hg h00
  by_cases hin : inB C.units.length 1 10 = true
  · go_enter Try.func55, Try.ntmps55
    go_wp2
    rw [← hW]
    clear hW
    go_region_held3 (fun w' => w'.cell? ⟨w.heap.size, 0, none⟩ = some (.slice Ar C.room.length cr) ∧ w'.cell? ⟨w.heap.size, 1, none⟩ = some (.slice A C.units.length c) ∧ Ext W w')
      (first | exact KH.out _ (by assumption) | exact KH.out _ (Below.drew (Below.refl _ _)))
      (first
        | (go_at_call 72; refine (iWithin _ _ _ _).mono ?_; rintro e w1 ⟨rfl, n1, rfl⟩; have h01 : Ext W (W.drew.drewN n1) := Ext.trans (Below.drew (Below.refl _ _)) (Ext.drewN _ _); have h02 : Ext W (W.drewN (1 + n1)) := Ext.drewN _ _)
        | (go_at_call 99; refine (iBins _ C _ (HH.out.ext (hEW.trans (by assumption))) hl).mono ?_; rintro e w2 ⟨v2, rfl, hv2, hE2⟩; have h03 : Ext W w2 := Ext.trans (by assumption) hE2)
        | (go_at_call 51; refine (iBinsValid _ _ C.room (C.units.map (·.tasks)) _ (HR.out.ext (by assumption)) hv2.read hfl hid').mono ?_; rintro e w3 ⟨rfl, hE3⟩; have h04 : Ext W w3 := Ext.trans (by assumption) hE3))
    have hb0 := h04.cell hb0
    have hb1 := h04.cell hb1
    by_cases hbo : binsOk C.room (C.units.map (·.tasks)) = true
    · rw [hbo]
      go_wp2_with (go_at_call 100; refine (iContainsU _ C.units _ (HU.out.ext h04)).mono ?_; rintro e w5 ⟨rfl, hE5⟩)
      go_ret
      exact ⟨ret_b (by rw [any_not_all]; unfold clusOk; rw [hin, hbo]; simp), (hEW.trans h04).trans hE5⟩
    · have hbo : binsOk C.room (C.units.map (·.tasks)) = false := by simpa using hbo
      rw [hbo]
      go_wp2
      go_ret
      exact ⟨ret_b (by unfold clusOk; rw [hin, hbo]; simp), hEW.trans h04⟩
  · have hin : inB C.units.length 1 10 = false := by simpa using hin
    go_enter Try.func55, Try.ntmps55
    go_wp2
    rw [← hW]
    clear hW
    go_quiet ((go_at_call 72; exact Calls.quiet_of (iWithin _ _ _ _)))
    go_wp2
    go_ret
    exact ⟨ret_b (by unfold clusOk; rw [hin]; simp), hEW.trans (Ext.drewN _ _)⟩

end Go.Proofs.Ytfgibhdglbjadaa
