/- The law FnSpare. -/
import Derived.Test.YtfgibhdglbjadaaCd3
import Derived.Test.YtfgibhdglbjadaaIm9
import Derived.Test.YtfgibhdglbjadaaMath4
namespace Go.Proofs.Ytfgibhdglbjadaa
open Go.RowKit
set_option maxRecDepth 4000

set_option maxHeartbeats 4000000 in
theorem lawSpare (v v2 : Value) (bs bs2 : List Int) (w : World) (h : XBy w v bs) (h2 : XBy w v2 bs2) :
    Calls Try.prog 3 #[v, v2] w (RetB w true) := by
  have HB := hid h
  obtain ⟨A, c, rfl, _⟩ := h
  obtain ⟨A2, c2, rfl, _⟩ := h2
  by_cases h1 : bs.length ≤ 1048576
  · have i1 : ¬ (1048576 : Int) < (bs.length : Int) := by omega
    by_cases h2 : bs2.length ≤ 1048576
    · have i2 : ¬ (1048576 : Int) < (bs2.length : Int) := by omega
      go_enter Try.func3, Try.ntmps3
      go_wp2_with (go_at_call 18; refine (dDrawSpare _ bs _ HB.out (by omega)).mono ?_; rintro e w1 ⟨cv, nv, C, need, rfl, hO, hN, hNL, hNB, hS, hE⟩; obtain ⟨Ar, cr, Au, cu, rfl⟩ := hO.form; have HN := hid hN.read; obtain ⟨An, cn, rfl, _, _⟩ := hN.form; have HC := hid hO.read; have HNL := hid hNL; have HNB := hid hNB; have HS := hid hS; have HE := hid hE; obtain ⟨y0, y1, y0f, y1f, k1, k1f, hkk, _⟩ := box2 (heap_alloc_new w1 (.cells #[.slice none 0 0, .slice none 0 0] 26)) (.slice Ar C.room.length cr) (.slice Au C.units.length cu); clear hkk hO hN hNL hNB hS hE)
      obtain ⟨W, hW⟩ : ∃ W, W = w1.alloc (.cells #[.slice Ar C.room.length cr, .slice Au C.units.length cu] 26) := ⟨_, rfl⟩
      have hEW : Ext w1 W := by rw [hW]; exact Ext.alloc _ _
      have hb0 : W.cell? ⟨w1.heap.size, 0, none⟩ = some (.slice Ar C.room.length cr) := by rw [hW]; exact cell_new _ _ _ 0
      have hb1 : W.cell? ⟨w1.heap.size, 1, none⟩ = some (.slice Au C.units.length cu) := by rw [hW]; exact cell_new _ _ _ 1
      have KB : Hid (∀ w', Ext W w' → w'.cell? ⟨w1.heap.size, 0, none⟩ = some (.slice Ar C.room.length cr) ∧ w'.cell? ⟨w1.heap.size, 1, none⟩ = some (.slice Au C.units.length cu)) := hid fun w' hw => ⟨hw.cell hb0, hw.cell hb1⟩
      have HEW := hid (HE.out.trans hEW)
      have HCW := hid (HC.out.ext hEW)
      have HNW := hid (RI.ext HN.out hEW)
      rw [← hW]
      clear hW y0 y1 y0f y1f k1 k1f hEW
      by_cases hneg : spareN C need < 0
      · go_wp2_with (first
          | (go_at_call 19; refine (iSpareCount _ _ C need _ HCW.out HNW.out HS.out.len HS.out.flat HS.out.ids).mono ?_; rintro e w2 ⟨rfl, hE2⟩; obtain ⟨hb0, hb1⟩ := KB.out _ hE2; have HE2 := hid hE2; clear hE2)
          | (go_at_call 20; refine (sSpareCount _ _ C need _ (HCW.out.ext HE2.out) (RI.ext HNW.out HE2.out) HS.out.len HS.out.flat).mono ?_; rintro e w3 ⟨rfl, hE3⟩; have HE3 := hid (HE2.out.trans hE3); clear hE3))
        go_ret
        exact ⟨rfl, HEW.out.trans HE3.out⟩
      · have HNEG := hid hneg
        have hnn : 0 ≤ spareN C need := by omega
        obtain ⟨kk, hkk, hkl⟩ : ∃ kk : Nat, ((bs2.length : Int) % 3) = (kk : Int) ∧ kk < 3 := ⟨bs2.length % 3, by simp, Nat.mod_lt _ (by omega)⟩
        obtain ⟨y, hy⟩ : ∃ y, need[kk]? = some y := ⟨_, List.getElem?_eq_getElem (by have := HNL.out; omega)⟩
        have hyb := HNB.out y (List.mem_of_getElem? hy)
        have HY := hid hy
        have ik : (kk : Int) < (need.length : Int) := by have := HNL.out; omega
        clear hy
        obtain ⟨i0_int, hi0_int, hz0_int, hz1_int, hz2_int⟩ := info_parts info_int
        go_wp2_with (first
          | (go_at_call 19; have hq := HX5.out; have HE6 : Hid (Ext W (w5.setCell ⟨gx, kk, none⟩ (.int .i64 (y - 1)))) := hid (Below.setCell HE5.out hgx _); obtain ⟨hx6, hs6⟩ := OI.set hq (j := kk) (by have := HNL.out; omega) (y - 1); refine (iSpareCount _ _ C (need.set kk (y - 1)) _ (HCW.out.ext HE6.out) hx6.read HS.out.len HS.out.flat HS.out.ids).mono ?_; rintro e w7 ⟨rfl, hE7⟩; have HE7 := hid (HE6.out.trans hE7); clear hE7 hx6 hs6)
          | (go_at_call 19; refine (iSpareCount _ _ C need _ HCW.out HNW.out HS.out.len HS.out.flat HS.out.ids).mono ?_; rintro e w2 ⟨rfl, hE2⟩; obtain ⟨hb0, hb1⟩ := KB.out _ hE2; have HE2 := hid hE2; clear hE2)
          | (go_at_call 20; refine (sSpareCount _ _ C need _ (HCW.out.ext HE2.out) (RI.ext HNW.out HE2.out) HS.out.len HS.out.flat).mono ?_; rintro e w3 ⟨rfl, hE3⟩; have HE3 := hid (HE2.out.trans hE3); have HE4 : Hid (Ext W (w3.alloc (.cells #[] 3))) := hid (HE3.out.trans (Ext.alloc _ _)); have HM : Hid (OI (w3.alloc (.cells #[] 3)) W.heap.size (.slice (some ⟨w3.heap.size, 0, none⟩) 0 0) []) := hid (Own.madeAt #[] 0 _ rfl HE3.out.size (by omega) rfl); have HN4 := hid (RI.ext HNW.out HE4.out); have hz3 := HE3.out.size; clear hE3)
          | (at_builtin; refine wpList_append_sl _ (by rfl) _ _ 23 (by rfl) EI.ok EI.flat (W.heap.size) 3 EI.ne i0_int _ 1 8 Try.underlying23 hi0_int hz0_int hz1_int hz2_int rfl (by omega) _ (by rfl) _ (HM.out) _ (by rfl) _ (HN4.out) (by have := HNL.out; simp; omega) (by have := HNL.out; simp; omega) ?_ ?_; (focus (first | exact Nat.le_refl _ | (simp; done) | (simp; omega) | omega)); intro v5 w5 hO5 hg5 hat5 hs5; rw [List.nil_append] at hO5; obtain ⟨gx, cx, rfl, hgx⟩ := Own.row hO5 (by have := HNL.out; omega); have HX5 := hid hO5; have HE5 := hid (Ext.grown HE4.out hg5 HM.out.lt); obtain ⟨dx, fx, _⟩ := OI.at_ hO5 HY.out; have hb0 := (KB.out _ HE5.out).1; have hb1 := (KB.out _ HE5.out).2; have hbx0 := (KB.out _ (Below.setCell HE5.out (p := ⟨gx, kk, none⟩) hgx (.int .i64 (y - 1)))).1; have hbx1 := (KB.out _ (Below.setCell HE5.out (p := ⟨gx, kk, none⟩) hgx (.int .i64 (y - 1)))).2; clear hO5 hg5 hat5 hs5))
        · go_ret
          exact ⟨rfl, HEW.out.trans HE5.out⟩
        · go_ret
          exact ⟨rfl, HEW.out.trans HE7.out⟩
        · go_ret
          refine ⟨ret_b ?_, HEW.out.trans HE7.out⟩
          have hd : need.getD kk 0 = y := by rw [List.getD_eq_getElem?_getD, HY.out]; rfl
          rcases spare_less (c := C) (need := need) (by have := HNEG.out; omega) (fun i => getD_set need kk (y - 1) i (by rw [hd]; omega)) with h | h
          · simp [h]
          · simp [h]
    · have i2 : (1048576 : Int) < (bs2.length : Int) := by omega
      go_enter Try.func3, Try.ntmps3
      go_wp2
      go_ret
      exact ⟨rfl, Ext.refl _⟩
  · have i1 : (1048576 : Int) < (bs.length : Int) := by omega
    go_enter Try.func3, Try.ntmps3
    go_wp2
    go_ret
    exact ⟨rfl, Ext.refl _⟩

end Go.Proofs.Ytfgibhdglbjadaa
