/- The law FnSpareArrive. -/
import Derived.Test.YtfgibhdglbjadaaGreatK19
import Derived.Test.YtfgibhdglbjadaaGreatK9
import Derived.Test.YtfgibhdglbjadaaGreatK16
import Derived.Test.YtfgibhdglbjadaaGreatK18
namespace Go.Proofs.YtfgibhdglbjadaaGreat
open Go.RowKit
set_option maxRecDepth 4000

theorem spareN_bd (C : ClusD) (need : List Int) : -1 ≤ spareN C need ∧ spareN C need ≤ 200 := by
  unfold spareN
  split
  · rename_i hc
    rw [Bool.and_eq_true] at hc
    have := spare_bd hc.1 need
    omega
  · omega
set_option maxHeartbeats 8000000 in
theorem lawSpareArrive (v : Value) (bs : List Int) (w : World) (h : XBy w v bs) :
    Calls Tryz.prog 3 #[v] w (RetB w true) := by
  have HB := hid h
  obtain ⟨A, c, rfl, _⟩ := h
  by_cases h1 : bs.length ≤ 1048576
  · have i1 : ¬ (1048576 : Int) < (bs.length : Int) := by omega
    go_enter Tryz.func3, Tryz.ntmps3
    go_wp2_with (go_at_call 16; refine (dDrawSpare _ bs _ HB.out (by omega)).mono ?_; rintro e w1 ⟨cv, nv, C, need, rfl, hO, hN, hNL, hNB, hS, hE⟩; obtain ⟨Ar, cr, Au, cu, rfl⟩ := hO.form; have HN := hid hN.read; obtain ⟨An, cn, rfl, _, _⟩ := hN.form; have HC := hid hO.read; have HNL := hid hNL; have HNB := hid hNB; have HS := hid hS; have HE := hid hE; obtain ⟨y0, y1, y0f, y1f, k1, k1f, hkk, _⟩ := box2 (heap_alloc_new w1 (.cells #[.slice none 0 0, .slice none 0 0] 26)) (.slice Ar C.room.length cr) (.slice Au C.units.length cu); clear hkk hO hN hNL hNB hS hE)
    obtain ⟨W, hW⟩ : ∃ W, W = w1.alloc (.cells #[.slice Ar C.room.length cr, .slice Au C.units.length cu] 26) := ⟨_, rfl⟩
    have hEW : Ext w1 W := by rw [hW]; exact Ext.alloc _ _
    have hbx : W.heap[w1.heap.size]? = some (.cells #[.slice Ar C.room.length cr, .slice Au C.units.length cu] 26 (0, 0)) := by rw [hW]; exact heap_alloc_new _ _
    have KB : Hid (∀ w', Ext W w' → w'.cell? ⟨w1.heap.size, 0, none⟩ = some (.slice Ar C.room.length cr) ∧ w'.cell? ⟨w1.heap.size, 1, none⟩ = some (.slice Au C.units.length cu)) := hid fun w' hw => ⟨obj_cell (hw.obj hbx) (i := 0) rfl, obj_cell (hw.obj hbx) (i := 1) rfl⟩
    have hb0 := obj_cell hbx (i := 0) rfl
    have hb1 := obj_cell hbx (i := 1) rfl
    have HEW := hid (HE.out.trans hEW)
    have HO1 := hid (HC.out.ext hEW)
    have HNW := hid (RI.ext HN.out hEW)
    rw [← hW]
    clear hW y0 y1 y0f y1f k1 k1f hEW hbx
    obtain ⟨s, hs⟩ : ∃ s, s = spareN C need := ⟨_, rfl⟩
    have HSV := hid hs
    have HSB : Hid (-1 ≤ s ∧ s ≤ 200) := hid (by rw [hs]; exact spareN_bd C need)
    clear hs
    by_cases hs1 : s < 1
    · go_wp2_with (first
        | (go_at_call 18; refine (sSpareCount _ _ C need _ (HO1.out.ext HE2.out) (RI.ext HNW.out HE2.out) HS.out.len HS.out.flat).mono ?_; rintro e w3 ⟨rfl, hE3⟩; rw [← HSV.out]; have HE3 := hid hE3; obtain ⟨hb0, hb1⟩ := KB.out _ (HE2.out.trans HE3.out); clear hE3)
        | (go_at_call 17; refine (iSpareCount _ _ C need _ (HO1.out.ext (Ext.refl _)) (RI.ext HNW.out (Ext.refl _)) HS.out.len HS.out.flat HS.out.ids).mono ?_; rintro e w2 ⟨rfl, hE2⟩; rw [← HSV.out]; have HE2 := hid hE2; obtain ⟨hb0, hb1⟩ := KB.out _ HE2.out; clear hE2))
      go_ret
      exact ⟨rfl, HEW.out.trans (HE2.out.trans HE3.out)⟩
    · have hns : ¬ spareN C need < 1 := by rw [← HSV.out]; exact hs1
      have hv := (spareN_ge (show ¬ spareN C need < 0 by omega)).1
      have HNS := hid hns
      clear hns
      go_wp2_with (first
        | (go_at_call 18; refine (sSpareCount _ _ C need _ (HO1.out.ext HE2.out) (RI.ext HNW.out HE2.out) HS.out.len HS.out.flat).mono ?_; rintro e w3 ⟨rfl, hE3⟩; rw [← HSV.out]; have HE3 := hid hE3; obtain ⟨hb0, hb1⟩ := KB.out _ (HE2.out.trans HE3.out); clear hE3)
        | (go_at_call 17; refine (iSpareCount _ _ C need _ (HO1.out.ext (Ext.refl _)) (RI.ext HNW.out (Ext.refl _)) HS.out.len HS.out.flat HS.out.ids).mono ?_; rintro e w2 ⟨rfl, hE2⟩; rw [← HSV.out]; have HE2 := hid hE2; obtain ⟨hb0, hb1⟩ := KB.out _ HE2.out; clear hE2))
      go_loopw [7] (fun i wr => ∃ j : Nat, 1 ≤ j ∧ j ≤ 41 ∧ i = .int .i64 j ∧ Hid (∀ i : Nat, 1 ≤ i → i < j → ¬ whereC C i < 0) ∧ Hid (Ext w3 wr)) (fun i _ => 41 - (intOf i).toNat)
      case atStart => exact ⟨1, by omega, by omega, rfl, hid (fun i h1 h2 => absurd h1 (by omega)), hid (Ext.refl _)⟩
      case round =>
        obtain ⟨j, hj1, hj, rfl, hall, hE⟩ := hrel
        obtain ⟨hb0, hb1⟩ := KB.out _ ((HE2.out.trans HE3.out).trans hE.out)
        have HE4 := hE
        by_cases hjl : j ≤ 40
        · have ij : (j : Int) ≤ 40 := by omega
          obtain ⟨z, hz⟩ : ∃ z, z = whereC C j := ⟨_, rfl⟩
          have HZ := hid hz
          by_cases hz0 : 0 ≤ z
          · clear hz
            go_wp2_with (go_at_call 19; refine (iClusterWhere _ C _ _ (HO1.out.ext ((HE2.out.trans HE3.out).trans hE.out)) HS.out.len HS.out.flat HS.out.ids).mono ?_; rintro e w5 ⟨rfl, hE5⟩; rw [← HZ.out]; have HE5 := hid (hE.out.trans hE5); clear hE5)
            go_roundw
            case rel => exact ⟨j + 1, by omega, by omega, by go_num, hid (fun i h1 h2 => by
              by_cases hij : i = j
              · subst hij
                rw [← HZ.out]
                omega
              · have := hall.out i h1 (by omega)
                omega), HE5⟩
            case measure => simp [intOf]; omega
          · have hwl : whereL (C.units.map (·.tasks)) (j : Int) < 0 := by rw [← whereC_ok hv, ← hz]; omega
            have hsa := spare_arrive (show ¬ spareN C need < 1 by have := HNS.out; omega) (id := (j : Int)) ⟨by omega, by omega⟩ hwl
            obtain ⟨R, hR⟩ : ∃ R, R = arriveC C ⟨(j : Int), need⟩ false := ⟨_, rfl⟩
            rw [← hR] at hsa
            have HRR := hid hR
            have HSR : Hid (SmallC R.1) := hid (by rw [hR]; exact (few_arrive C _ false).small)
            have HXI : Hid (IdR (TaskD.mk (j : Int) need).id) := hid (by show IdR (j : Int); unfold IdR; omega)
            have HQ : Hid (Ext W wr) := hid ((HE2.out.trans HE3.out).trans hE.out)
            clear hz hwl hR
            by_cases hm : manyN C = 14
            · have em : ((manyN C : Int) == 14) = true := by rw [hm]; rfl
              have hR2 : R.2 = 3 := hsa.1 hm
              clear hsa
              go_wp2_with (first
                | (go_at_call 21; refine (iClusterCounts _ C _ (HO1.out.ext (HE5.out.trans HE6.out)) HS.out.len HS.out.flat HS.out.ids).mono ?_; rintro e w7 ⟨v7, rfl, hO7, hE7⟩; obtain ⟨g7, c7, rfl, hK7⟩ := counts_row hv hO7; have K7 := hid hK7; have HE7 := hid hE7; obtain ⟨hb0, hb1⟩ := KB.out _ (HE5.out.trans (HE6.out.trans HE7.out)); obtain ⟨p60, p61⟩ := K6.out _ HE7.out; obtain ⟨q70, q71, q72⟩ := K7.out _ (Ext.refl _); clear hO7 hE7 hK7)
                | (go_at_call 20; refine (iClusterArrive _ C _ ⟨(j : Int), need⟩ false _ (HO1.out.ext HE5.out) HS.out.len HS.out.flat HS.out.ids ⟨_, rfl, RI.ext HNW.out HE5.out⟩ HXI.out).mono ?_; rw [← HRR.out]; rintro e w6 ⟨v6, rfl, hO6, hE6⟩; obtain ⟨A6, c6, B6, d6, rfl⟩ := hO6.form; obtain ⟨y0, y1, y0f, y1f, k1, k1f, hkk, _⟩ := box2 (heap_alloc_new w6 (.cells #[.slice none 0 0, .slice none 0 0] 26)) (.slice A6 R.1.room.length c6) (.slice B6 R.1.units.length d6); have hx6 := Ext.alloc w6 (.cells #[.slice A6 R.1.room.length c6, .slice B6 R.1.units.length d6] 26); have hbx6 := heap_alloc_new w6 (.cells #[.slice A6 R.1.room.length c6, .slice B6 R.1.units.length d6] 26); have HO6 := hid (hO6.read.ext hx6); have HE6 := hid (hE6.trans hx6); have K6 := hid (show ∀ w', Ext (w6.alloc (.cells #[.slice A6 R.1.room.length c6, .slice B6 R.1.units.length d6] 26)) w' → w'.cell? ⟨w6.heap.size, 0, none⟩ = some (.slice A6 R.1.room.length c6) ∧ w'.cell? ⟨w6.heap.size, 1, none⟩ = some (.slice B6 R.1.units.length d6) from fun w' hw => ⟨obj_cell (hw.obj hbx6) (i := 0) rfl, obj_cell (hw.obj hbx6) (i := 1) rfl⟩); obtain ⟨hb0, hb1⟩ := KB.out _ (HE5.out.trans HE6.out); obtain ⟨p60, p61⟩ := K6.out _ (Ext.refl _); clear hO6 hE6 hkk hx6 hbx6)
                | (go_at_call 19; refine (iClusterWhere _ C _ _ (HO1.out.ext HQ.out) HS.out.len HS.out.flat HS.out.ids).mono ?_; rintro e w5 ⟨rfl, hE5⟩; rw [← HZ.out]; obtain ⟨hb0, hb1⟩ := KB.out _ (HQ.out.trans hE5); have HE5 := hid (HQ.out.trans hE5); clear hE5))
              go_ret
              exact ⟨rfl, HEW.out.trans (HE5.out.trans (HE6.out.trans HE7.out))⟩
            · have em : ((manyN C : Int) == 14) = false := by simp; omega
              obtain ⟨hR2, hsp⟩ := hsa.2 hm
              have HSR1 : Hid (spareN R.1 need = s - 1) := hid (by rw [hsp, HSV.out])
              have wsp : IntKind.i64.wrap (s - 1) = s - 1 := IntWalk.i64_in _ (by have := HSB.out; omega)
              have esp : (s - 1 == s - 1) = true := by simp
              clear hsa hsp
              go_wp2_with (first
                | (go_at_call 17; refine (iSpareCount _ _ R.1 need _ (HO6.out.ext HE7.out) (RI.ext HNW.out (HE5.out.trans (HE6.out.trans HE7.out))) HSR.out.len HSR.out.flat HSR.out.ids).mono ?_; rintro e w8 ⟨rfl, hE8⟩; rw [HSR1.out]; have HE8 := hid hE8; clear hE8)
                | (go_at_call 21; refine (iClusterCounts _ C _ (HO1.out.ext (HE5.out.trans HE6.out)) HS.out.len HS.out.flat HS.out.ids).mono ?_; rintro e w7 ⟨v7, rfl, hO7, hE7⟩; obtain ⟨g7, c7, rfl, hK7⟩ := counts_row hv hO7; have K7 := hid hK7; have HE7 := hid hE7; obtain ⟨hb0, hb1⟩ := KB.out _ (HE5.out.trans (HE6.out.trans HE7.out)); obtain ⟨p60, p61⟩ := K6.out _ HE7.out; obtain ⟨q70, q71, q72⟩ := K7.out _ (Ext.refl _); clear hO7 hE7 hK7)
                | (go_at_call 20; refine (iClusterArrive _ C _ ⟨(j : Int), need⟩ false _ (HO1.out.ext HE5.out) HS.out.len HS.out.flat HS.out.ids ⟨_, rfl, RI.ext HNW.out HE5.out⟩ HXI.out).mono ?_; rw [← HRR.out]; rintro e w6 ⟨v6, rfl, hO6, hE6⟩; obtain ⟨A6, c6, B6, d6, rfl⟩ := hO6.form; obtain ⟨y0, y1, y0f, y1f, k1, k1f, hkk, _⟩ := box2 (heap_alloc_new w6 (.cells #[.slice none 0 0, .slice none 0 0] 26)) (.slice A6 R.1.room.length c6) (.slice B6 R.1.units.length d6); have hx6 := Ext.alloc w6 (.cells #[.slice A6 R.1.room.length c6, .slice B6 R.1.units.length d6] 26); have hbx6 := heap_alloc_new w6 (.cells #[.slice A6 R.1.room.length c6, .slice B6 R.1.units.length d6] 26); have HO6 := hid (hO6.read.ext hx6); have HE6 := hid (hE6.trans hx6); have K6 := hid (show ∀ w', Ext (w6.alloc (.cells #[.slice A6 R.1.room.length c6, .slice B6 R.1.units.length d6] 26)) w' → w'.cell? ⟨w6.heap.size, 0, none⟩ = some (.slice A6 R.1.room.length c6) ∧ w'.cell? ⟨w6.heap.size, 1, none⟩ = some (.slice B6 R.1.units.length d6) from fun w' hw => ⟨obj_cell (hw.obj hbx6) (i := 0) rfl, obj_cell (hw.obj hbx6) (i := 1) rfl⟩); obtain ⟨hb0, hb1⟩ := KB.out _ (HE5.out.trans HE6.out); obtain ⟨p60, p61⟩ := K6.out _ (Ext.refl _); clear hO6 hE6 hkk hx6 hbx6)
                | (go_at_call 19; refine (iClusterWhere _ C _ _ (HO1.out.ext HQ.out) HS.out.len HS.out.flat HS.out.ids).mono ?_; rintro e w5 ⟨rfl, hE5⟩; rw [← HZ.out]; obtain ⟨hb0, hb1⟩ := KB.out _ (HQ.out.trans hE5); have HE5 := hid (HQ.out.trans hE5); clear hE5))
              go_ret
              exact ⟨rfl, HEW.out.trans (HE5.out.trans (HE6.out.trans (HE7.out.trans HE8.out)))⟩
        · exfalso
          refine some_free hv fun id h1 h2 => ?_
          have := hall.out id.toNat (by omega) (by omega)
          rw [show ((id.toNat : Nat) : Int) = id by omega, whereC_ok hv] at this
          exact this
  · have i1 : (1048576 : Int) < (bs.length : Int) := by omega
    go_enter Tryz.func3, Tryz.ntmps3
    go_wp2
    go_ret
    exact ⟨rfl, Ext.refl _⟩

end Go.Proofs.YtfgibhdglbjadaaGreat
