/- The law FnSpareOpen. -/
import Derived.Test.YtfgibhdglbjadaaK19
import Derived.Test.YtfgibhdglbjadaaK9
import Derived.Test.YtfgibhdglbjadaaK11
import Derived.Test.YtfgibhdglbjadaaK18
namespace Go.Proofs.Ytfgibhdglbjadaa
open Go.RowKit
set_option maxRecDepth 4000

theorem spareN_bd (C : ClusD) (need : List Int) : -1 ≤ spareN C need ∧ spareN C need ≤ 200 := by
  unfold spareN
  split
  · rename_i hc
    rw [Bool.and_eq_true] at hc
    have := spare_bd hc.1 need
    omega
  · omega
set_option maxHeartbeats 8000000 in
theorem lawSpareOpen (v v2 : Value) (bs bs2 : List Int) (w : World) (h : XBy w v bs) (h2 : XBy w v2 bs2) :
    Calls Try.prog 15 #[v, v2] w (RetB w true) := by
  have HB := hid h
  obtain ⟨A, c, rfl, _⟩ := h
  obtain ⟨A2, c2, rfl, _⟩ := h2
  by_cases h1 : bs.length ≤ 1048576
  · have i1 : ¬ (1048576 : Int) < (bs.length : Int) := by omega
    by_cases h2 : bs2.length ≤ 1048576
    · have i2 : ¬ (1048576 : Int) < (bs2.length : Int) := by omega
      go_enter Try.func15, Try.ntmps15
      go_wp2_with (go_at_call 18; refine (dDrawSpare _ bs _ HB.out (by omega)).mono ?_; rintro e w1 ⟨cv, nv, C, need, rfl, hO, hN, hNL, hNB, hS, hE⟩; obtain ⟨Ar, cr, Au, cu, rfl⟩ := hO.form; have HN := hid hN.read; obtain ⟨An, cn, rfl, _, _⟩ := hN.form; have HC := hid hO.read; have HNL := hid hNL; have HNB := hid hNB; have HS := hid hS; have HE := hid hE; obtain ⟨y0, y1, y0f, y1f, k1, k1f, hkk, _⟩ := box2 (heap_alloc_new w1 (.cells #[.slice none 0 0, .slice none 0 0] 26)) (.slice Ar C.room.length cr) (.slice Au C.units.length cu); clear hkk hO hN hNL hNB hS hE)
      obtain ⟨W, hW⟩ : ∃ W, W = w1.alloc (.cells #[.slice Ar C.room.length cr, .slice Au C.units.length cu] 26) := ⟨_, rfl⟩
      have hEW : Ext w1 W := by rw [hW]; exact Ext.alloc _ _
      have hbx : W.heap[w1.heap.size]? = some (.cells #[.slice Ar C.room.length cr, .slice Au C.units.length cu] 26 (0, 0)) := by rw [hW]; exact heap_alloc_new _ _
      have KB : Hid (∀ w', Ext W w' → w'.cell? ⟨w1.heap.size, 0, none⟩ = some (.slice Ar C.room.length cr) ∧ w'.cell? ⟨w1.heap.size, 1, none⟩ = some (.slice Au C.units.length cu)) := hid fun w' hw => ⟨obj_cell (hw.obj hbx) (i := 0) rfl, obj_cell (hw.obj hbx) (i := 1) rfl⟩
      have hb0 := obj_cell hbx (i := 0) rfl
      have hb1 := obj_cell hbx (i := 1) rfl
      have HEW := hid (HE.out.trans hEW)
      have HO1 := hid (HC.out.ext hEW)
      have HNW := hid (RI.ext HN.out hEW)
      rw [← hW]
      clear hW y0 y1 y0f y1f k1 k1f hEW hbx
      obtain ⟨s, hs⟩ : ∃ s, s = spareN C need := ⟨_, rfl⟩
      have HSV := hid hs
      have HSB : Hid (-1 ≤ s ∧ s ≤ 200) := hid (by rw [hs]; exact spareN_bd C need)
      clear hs
      by_cases hs1 : s < 0
      · go_wp2_with (first
          | (go_at_call 20; refine (sSpareCount _ _ C need _ (HO1.out.ext HE2.out) (RI.ext HNW.out HE2.out) HS.out.len HS.out.flat).mono ?_; rintro e w3 ⟨rfl, hE3⟩; rw [← HSV.out]; have HE3 := hid hE3; obtain ⟨hb0, hb1⟩ := KB.out _ (HE2.out.trans HE3.out); clear hE3)
          | (go_at_call 19; refine (iSpareCount _ _ C need _ (HO1.out.ext (Ext.refl _)) (RI.ext HNW.out (Ext.refl _)) HS.out.len HS.out.flat HS.out.ids).mono ?_; rintro e w2 ⟨rfl, hE2⟩; rw [← HSV.out]; have HE2 := hid hE2; obtain ⟨hb0, hb1⟩ := KB.out _ HE2.out; clear hE2))
        go_ret
        exact ⟨rfl, HEW.out.trans (HE2.out.trans HE3.out)⟩
      · have hns : ¬ spareN C need < 0 := by rw [← HSV.out]; exact hs1
        have hv := (spareN_ge hns).1
        have hlen := clusOk_len hv
        obtain ⟨kk, hk1, hk2, hkl⟩ : ∃ kk : Nat, ((bs2.length : Int).tmod (C.units.length : Int) = (kk : Int)) ∧ ((bs2.length : Int) % (C.units.length : Int) = (kk : Int)) ∧ kk < C.units.length := ⟨bs2.length % C.units.length, by rw [Int.tmod_eq_emod_of_nonneg (by omega)]; simp, by simp, Nat.mod_lt _ (by omega)⟩
        have iu : ((C.units.length : Int) == 0) = false := by simp; intro h; rw [h] at hlen; simp at hlen
        have iu' : ¬ (C.units.length : Int) = 0 := by omega
        have HRW := hid (show RI W (.slice Ar C.room.length cr) C.room by obtain ⟨_, _, he, h2, _⟩ := HO1.out; injection he with he; injection he with he; injection he with he _; rw [he]; exact h2)
        obtain ⟨R, hR⟩ : ∃ R, R = openC C (kk : Int) true := ⟨_, rfl⟩
        have HRR := hid hR
        have HSR : Hid (SmallC R.1) := hid (by rw [hR]; exact (few_open C _ true).small)
        by_cases h0 : R.2 = 0
        · have h0' : (R.2 != 0) = false := by simp [h0]
          have hm := open_more hns (k := kk) (by rw [← hR]; exact h0)
          rw [← hR, ← HSV.out] at hm
          have hfb := full_bd hv need
          obtain ⟨f, hf⟩ : ∃ f, f = timesL C.room need := ⟨_, rfl⟩
          rw [← hf] at hm hfb
          have HSR1 : Hid (spareN R.1 need = s + f) := hid hm.1
          have hlenHid := hid hlen
          have sb := HSB.out
          by_cases hf0 : 0 < f
          · have HVF : Hid (vecFits need C.room = true) := hid (by rw [hm.2]; simpa using hf0)
            have hgt : s < s + f := by omega
            clear hm hR hns hlen hf
            go_wp2_with (first
              | (go_at_call 50; refine (iVecFits _ _ need C.room _ (RI.ext HNW.out (HE2.out.trans (HE3.out.trans (HE4.out.trans HE5.out)))) (RI.ext HRW.out (HE2.out.trans (HE3.out.trans (HE4.out.trans HE5.out))))).mono ?_; rintro e w6 ⟨rfl, n6, hw6⟩; rw [HVF.out]; have HE6 : Hid (Ext w5 w6) := hid (by rw [hw6]; exact Ext.drewN _ _); obtain ⟨hb0, hb1⟩ := KB.out _ (HE2.out.trans (HE3.out.trans (HE4.out.trans (HE5.out.trans HE6.out)))); obtain ⟨p40, p41⟩ := K4.out _ (HE5.out.trans HE6.out); clear hw6)
              | (go_at_call 19; refine (iSpareCount _ _ R.1 need _ HO4.out (RI.ext HNW.out (HE2.out.trans (HE3.out.trans HE4.out))) HSR.out.len HSR.out.flat HSR.out.ids).mono ?_; rintro e w5 ⟨rfl, hE5⟩; rw [HSR1.out]; have HE5 := hid hE5; obtain ⟨hb0, hb1⟩ := KB.out _ (HE2.out.trans (HE3.out.trans (HE4.out.trans HE5.out))); obtain ⟨p40, p41⟩ := K4.out _ HE5.out; clear hE5)
              | (go_at_call 38; refine (iClusterOpen _ C (kk : Int) true _ (HO1.out.ext (HE2.out.trans HE3.out)) HS.out.len HS.out.flat HS.out.ids).mono ?_; rw [← HRR.out]; rintro e w4 ⟨v4, rfl, hO4, hE4⟩; obtain ⟨A4, c4, B4, d4, rfl⟩ := hO4.form; obtain ⟨y0, y1, y0f, y1f, k1, k1f, hkk, _⟩ := box2 (heap_alloc_new w4 (.cells #[.slice none 0 0, .slice none 0 0] 26)) (.slice A4 R.1.room.length c4) (.slice B4 R.1.units.length d4); have hx4 := Ext.alloc w4 (.cells #[.slice A4 R.1.room.length c4, .slice B4 R.1.units.length d4] 26); have hbx4 := heap_alloc_new w4 (.cells #[.slice A4 R.1.room.length c4, .slice B4 R.1.units.length d4] 26); have HO4 := hid (hO4.read.ext hx4); have HE4 := hid (hE4.trans hx4); have K4 := hid (show ∀ w', Ext (w4.alloc (.cells #[.slice A4 R.1.room.length c4, .slice B4 R.1.units.length d4] 26)) w' → w'.cell? ⟨w4.heap.size, 0, none⟩ = some (.slice A4 R.1.room.length c4) ∧ w'.cell? ⟨w4.heap.size, 1, none⟩ = some (.slice B4 R.1.units.length d4) from fun w' hw => ⟨obj_cell (hw.obj hbx4) (i := 0) rfl, obj_cell (hw.obj hbx4) (i := 1) rfl⟩); obtain ⟨hb0, hb1⟩ := KB.out _ (HE2.out.trans (HE3.out.trans HE4.out)); obtain ⟨p40, p41⟩ := K4.out _ (Ext.refl _); clear hO4 hE4 hkk hx4 hbx4)
              | (go_at_call 20; refine (sSpareCount _ _ C need _ (HO1.out.ext HE2.out) (RI.ext HNW.out HE2.out) HS.out.len HS.out.flat).mono ?_; rintro e w3 ⟨rfl, hE3⟩; rw [← HSV.out]; have HE3 := hid hE3; obtain ⟨hb0, hb1⟩ := KB.out _ (HE2.out.trans HE3.out); clear hE3)
              | (go_at_call 19; refine (iSpareCount _ _ C need _ (HO1.out.ext (Ext.refl _)) (RI.ext HNW.out (Ext.refl _)) HS.out.len HS.out.flat HS.out.ids).mono ?_; rintro e w2 ⟨rfl, hE2⟩; rw [← HSV.out]; have HE2 := hid hE2; obtain ⟨hb0, hb1⟩ := KB.out _ HE2.out; clear hE2))
            go_ret
            exact ⟨rfl, HEW.out.trans (HE2.out.trans (HE3.out.trans (HE4.out.trans (HE5.out.trans HE6.out))))⟩
          · have HVF : Hid (vecFits need C.room = false) := hid (by rw [hm.2]; simpa using hf0)
            have hf1 : f = 0 := by omega
            subst hf1
            have heq : (s + 0 == s) = true := by simp
            clear hm hR hns hlen hf
            go_wp2_with (first
              | (go_at_call 50; refine (iVecFits _ _ need C.room _ (RI.ext HNW.out (HE2.out.trans (HE3.out.trans (HE4.out.trans (HE5.out.trans HE6.out))))) (RI.ext HRW.out (HE2.out.trans (HE3.out.trans (HE4.out.trans (HE5.out.trans HE6.out)))))).mono ?_; rintro e w7 ⟨rfl, n7, hw7⟩; rw [HVF.out]; have HE7 : Hid (Ext w6 w7) := hid (by rw [hw7]; exact Ext.drewN _ _); obtain ⟨hb0, hb1⟩ := KB.out _ (HE2.out.trans (HE3.out.trans (HE4.out.trans (HE5.out.trans (HE6.out.trans HE7.out))))); obtain ⟨p40, p41⟩ := K4.out _ (HE5.out.trans (HE6.out.trans HE7.out)); clear hw7)
              | (go_at_call 50; refine (iVecFits _ _ need C.room _ (RI.ext HNW.out (HE2.out.trans (HE3.out.trans (HE4.out.trans HE5.out)))) (RI.ext HRW.out (HE2.out.trans (HE3.out.trans (HE4.out.trans HE5.out))))).mono ?_; rintro e w6 ⟨rfl, n6, hw6⟩; rw [HVF.out]; have HE6 : Hid (Ext w5 w6) := hid (by rw [hw6]; exact Ext.drewN _ _); obtain ⟨hb0, hb1⟩ := KB.out _ (HE2.out.trans (HE3.out.trans (HE4.out.trans (HE5.out.trans HE6.out)))); obtain ⟨p40, p41⟩ := K4.out _ (HE5.out.trans HE6.out); clear hw6)
              | (go_at_call 19; refine (iSpareCount _ _ R.1 need _ HO4.out (RI.ext HNW.out (HE2.out.trans (HE3.out.trans HE4.out))) HSR.out.len HSR.out.flat HSR.out.ids).mono ?_; rintro e w5 ⟨rfl, hE5⟩; rw [HSR1.out]; have HE5 := hid hE5; obtain ⟨hb0, hb1⟩ := KB.out _ (HE2.out.trans (HE3.out.trans (HE4.out.trans HE5.out))); obtain ⟨p40, p41⟩ := K4.out _ HE5.out; clear hE5)
              | (go_at_call 38; refine (iClusterOpen _ C (kk : Int) true _ (HO1.out.ext (HE2.out.trans HE3.out)) HS.out.len HS.out.flat HS.out.ids).mono ?_; rw [← HRR.out]; rintro e w4 ⟨v4, rfl, hO4, hE4⟩; obtain ⟨A4, c4, B4, d4, rfl⟩ := hO4.form; obtain ⟨y0, y1, y0f, y1f, k1, k1f, hkk, _⟩ := box2 (heap_alloc_new w4 (.cells #[.slice none 0 0, .slice none 0 0] 26)) (.slice A4 R.1.room.length c4) (.slice B4 R.1.units.length d4); have hx4 := Ext.alloc w4 (.cells #[.slice A4 R.1.room.length c4, .slice B4 R.1.units.length d4] 26); have hbx4 := heap_alloc_new w4 (.cells #[.slice A4 R.1.room.length c4, .slice B4 R.1.units.length d4] 26); have HO4 := hid (hO4.read.ext hx4); have HE4 := hid (hE4.trans hx4); have K4 := hid (show ∀ w', Ext (w4.alloc (.cells #[.slice A4 R.1.room.length c4, .slice B4 R.1.units.length d4] 26)) w' → w'.cell? ⟨w4.heap.size, 0, none⟩ = some (.slice A4 R.1.room.length c4) ∧ w'.cell? ⟨w4.heap.size, 1, none⟩ = some (.slice B4 R.1.units.length d4) from fun w' hw => ⟨obj_cell (hw.obj hbx4) (i := 0) rfl, obj_cell (hw.obj hbx4) (i := 1) rfl⟩); obtain ⟨hb0, hb1⟩ := KB.out _ (HE2.out.trans (HE3.out.trans HE4.out)); obtain ⟨p40, p41⟩ := K4.out _ (Ext.refl _); clear hO4 hE4 hkk hx4 hbx4)
              | (go_at_call 20; refine (sSpareCount _ _ C need _ (HO1.out.ext HE2.out) (RI.ext HNW.out HE2.out) HS.out.len HS.out.flat).mono ?_; rintro e w3 ⟨rfl, hE3⟩; rw [← HSV.out]; have HE3 := hid hE3; obtain ⟨hb0, hb1⟩ := KB.out _ (HE2.out.trans HE3.out); clear hE3)
              | (go_at_call 19; refine (iSpareCount _ _ C need _ (HO1.out.ext (Ext.refl _)) (RI.ext HNW.out (Ext.refl _)) HS.out.len HS.out.flat HS.out.ids).mono ?_; rintro e w2 ⟨rfl, hE2⟩; rw [← HSV.out]; have HE2 := hid hE2; obtain ⟨hb0, hb1⟩ := KB.out _ HE2.out; clear hE2))
            go_ret
            exact ⟨rfl, HEW.out.trans (HE2.out.trans (HE3.out.trans (HE4.out.trans (HE5.out.trans (HE6.out.trans HE7.out)))))⟩
        · have h0' : (R.2 != 0) = true := by simpa using h0
          clear h0 hR hns hlen
          go_wp2_with (first
            | (go_at_call 38; refine (iClusterOpen _ C (kk : Int) true _ (HO1.out.ext (HE2.out.trans HE3.out)) HS.out.len HS.out.flat HS.out.ids).mono ?_; rw [← HRR.out]; rintro e w4 ⟨v4, rfl, hO4, hE4⟩; obtain ⟨A4, c4, B4, d4, rfl⟩ := hO4.form; obtain ⟨y0, y1, y0f, y1f, k1, k1f, hkk, _⟩ := box2 (heap_alloc_new w4 (.cells #[.slice none 0 0, .slice none 0 0] 26)) (.slice A4 R.1.room.length c4) (.slice B4 R.1.units.length d4); have hx4 := Ext.alloc w4 (.cells #[.slice A4 R.1.room.length c4, .slice B4 R.1.units.length d4] 26); have hbx4 := heap_alloc_new w4 (.cells #[.slice A4 R.1.room.length c4, .slice B4 R.1.units.length d4] 26); have HO4 := hid (hO4.read.ext hx4); have HE4 := hid (hE4.trans hx4); have K4 := hid (show ∀ w', Ext (w4.alloc (.cells #[.slice A4 R.1.room.length c4, .slice B4 R.1.units.length d4] 26)) w' → w'.cell? ⟨w4.heap.size, 0, none⟩ = some (.slice A4 R.1.room.length c4) ∧ w'.cell? ⟨w4.heap.size, 1, none⟩ = some (.slice B4 R.1.units.length d4) from fun w' hw => ⟨obj_cell (hw.obj hbx4) (i := 0) rfl, obj_cell (hw.obj hbx4) (i := 1) rfl⟩); obtain ⟨hb0, hb1⟩ := KB.out _ (HE2.out.trans (HE3.out.trans HE4.out)); obtain ⟨p40, p41⟩ := K4.out _ (Ext.refl _); clear hO4 hE4 hkk hx4 hbx4)
            | (go_at_call 20; refine (sSpareCount _ _ C need _ (HO1.out.ext HE2.out) (RI.ext HNW.out HE2.out) HS.out.len HS.out.flat).mono ?_; rintro e w3 ⟨rfl, hE3⟩; rw [← HSV.out]; have HE3 := hid hE3; obtain ⟨hb0, hb1⟩ := KB.out _ (HE2.out.trans HE3.out); clear hE3)
            | (go_at_call 19; refine (iSpareCount _ _ C need _ (HO1.out.ext (Ext.refl _)) (RI.ext HNW.out (Ext.refl _)) HS.out.len HS.out.flat HS.out.ids).mono ?_; rintro e w2 ⟨rfl, hE2⟩; rw [← HSV.out]; have HE2 := hid hE2; obtain ⟨hb0, hb1⟩ := KB.out _ HE2.out; clear hE2))
          go_ret
          exact ⟨rfl, HEW.out.trans (HE2.out.trans (HE3.out.trans HE4.out))⟩
    · have i2 : (1048576 : Int) < (bs2.length : Int) := by omega
      go_enter Try.func15, Try.ntmps15
      go_wp2
      go_ret
      exact ⟨rfl, Ext.refl _⟩
  · have i1 : (1048576 : Int) < (bs.length : Int) := by omega
    go_enter Try.func15, Try.ntmps15
    go_wp2
    go_ret
    exact ⟨rfl, Ext.refl _⟩

end Go.Proofs.Ytfgibhdglbjadaa
