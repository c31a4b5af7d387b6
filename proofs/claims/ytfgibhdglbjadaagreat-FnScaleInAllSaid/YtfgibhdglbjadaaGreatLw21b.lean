/- The law FnScaleInAll. -/
import Derived.Test.YtfgibhdglbjadaaGreatLw20b
namespace Go.Proofs.YtfgibhdglbjadaaGreat
open Go.RowKit
set_option maxRecDepth 4000

set_option maxHeartbeats 4000000 in
theorem lawScaleInAll (v : Value) (bs : List Int) (w : World) (h : XBy w v bs) :
    Calls Tryz.prog 15 #[v] w (RetB w true) := by
  have HB := hid h
  obtain ⟨A, c, rfl, _⟩ := h
  by_cases h1 : bs.length ≤ 1048576
  · have i1 : ¬ (1048576 : Int) < (bs.length : Int) := by omega
    go_enter Tryz.func15, Tryz.ntmps15
    go_wp2_with (go_at_call 44; refine (dDrawScaleIn _ bs _ HB.out (by omega)).mono ?_; rintro e w1 ⟨cv, nv, C, need, many, rfl, hO, hN, hNL, hNB, hS, hMB, hE⟩; obtain ⟨Ar, cr, Au, cu, rfl⟩ := hO.form; have HN := hid hN.read; obtain ⟨An, cn, rfl, _, _⟩ := hN.form; have HC := hid hO.read; have HNL := hid hNL; have HS := hid hS; have HE := hid hE; obtain ⟨y0, y1, y0f, y1f, k1, k1f, hkk, _⟩ := box2 (heap_alloc_new w1 (.cells #[.slice none 0 0, .slice none 0 0] 26)) (.slice Ar C.room.length cr) (.slice Au C.units.length cu); clear hkk hO hN hNL hNB hS hE)
    obtain ⟨W, hW⟩ : ∃ W, W = w1.alloc (.cells #[.slice Ar C.room.length cr, .slice Au C.units.length cu] 26) := ⟨_, rfl⟩
    have hEW : Ext w1 W := by rw [hW]; exact Ext.alloc _ _
    have hbx : W.heap[w1.heap.size]? = some (.cells #[.slice Ar C.room.length cr, .slice Au C.units.length cu] 26 (0, 0)) := by rw [hW]; exact heap_alloc_new _ _
    have KB : Hid (∀ w', Ext W w' → w'.cell? ⟨w1.heap.size, 0, none⟩ = some (.slice Ar C.room.length cr) ∧ w'.cell? ⟨w1.heap.size, 1, none⟩ = some (.slice Au C.units.length cu)) := hid fun w' hw => ⟨obj_cell (hw.obj hbx) (i := 0) rfl, obj_cell (hw.obj hbx) (i := 1) rfl⟩
    have hb0 := obj_cell hbx (i := 0) rfl
    have hb1 := obj_cell hbx (i := 1) rfl
    have HEW := hid (HE.out.trans hEW)
    have HO1 := hid (HC.out.ext hEW)
    have HNW := hid (RI.ext HN.out hEW)
    rw [← hW]
    clear hW y0 y1 y0f y1f k1 k1f hEW hbx
    obtain ⟨ys, hys⟩ : ∃ ys, ys = inN C need many := ⟨_, rfl⟩
    have HYS := hid hys
    have hyl : ys.length ≤ 10 := by rw [hys]; exact inN_len2 C need many
    clear hys
    obtain ⟨s, hs⟩ : ∃ s, s = spareN C need := ⟨_, rfl⟩
    have HSV := hid hs
    obtain ⟨hmb1, hmb2⟩ := hMB
    by_cases hv : clusOk C = true
    · by_cases hs0 : s < 0
      · clear hs
        go_wp2_with (first
          | (go_at_call 47; refine (lSameInts _ _ _ _ (RI.ext HO2.out (HE3.out.trans (HE4.out.trans (HE5.out.trans HE6.out)))) (RI.ext HO3.out (HE4.out.trans (HE5.out.trans HE6.out)))).mono ?_; rintro e w7 ⟨rfl, hE7⟩; have HE7 := hid hE7; obtain ⟨hb0, hb1⟩ := KB.out _ (HE2.out.trans (HE3.out.trans (HE4.out.trans (HE5.out.trans (HE6.out.trans HE7.out))))); clear hE7)
          | (go_at_call 18; refine (sSpareCount _ _ C need _ (HO1.out.ext (HE2.out.trans (HE3.out.trans (HE4.out.trans HE5.out)))) (RI.ext HNW.out (HE2.out.trans (HE3.out.trans (HE4.out.trans HE5.out)))) HS.out.len HS.out.flat).mono ?_; rw [← HSV.out]; rintro e w6 ⟨rfl, hE6⟩; have HE6 := hid hE6; obtain ⟨hb0, hb1⟩ := KB.out _ (HE2.out.trans (HE3.out.trans (HE4.out.trans (HE5.out.trans HE6.out)))); clear hE6)
          | (go_at_call 36; refine (sClusterValid _ C _ (HO1.out.ext (HE2.out.trans (HE3.out.trans HE4.out))) HS.out.len HS.out.flat).mono ?_; rw [hv]; rintro e w5 ⟨rfl, hE5⟩; have HE5 := hid hE5; obtain ⟨hb0, hb1⟩ := KB.out _ (HE2.out.trans (HE3.out.trans (HE4.out.trans HE5.out))); clear hE5)
          | (go_at_call 47; refine (lSameInts _ _ _ _ (RI.ext HO2.out HE3.out) (RI.ext HO3.out (Ext.refl _))).mono ?_; rintro e w4 ⟨rfl, hE4⟩; have HE4 := hid hE4; obtain ⟨hb0, hb1⟩ := KB.out _ (HE2.out.trans (HE3.out.trans HE4.out)); clear hE4)
          | (go_at_call 46; refine (sScaleIn _ _ C need many _ (HO1.out.ext HE2.out) (RI.ext HNW.out HE2.out) HS.out.len HS.out.flat).mono ?_; rw [← HYS.out]; rintro e w3 ⟨v3, rfl, hO3, hE3⟩; obtain ⟨A3, c3, rfl, _, _⟩ := hO3.form; have HO3 := hid hO3.read; have HE3 := hid hE3; obtain ⟨hb0, hb1⟩ := KB.out _ (HE2.out.trans hE3); clear hO3 hE3)
          | (go_at_call 45; refine (iScaleIn _ _ C need many _ HO1.out HNW.out HS.out.len HS.out.flat HS.out.ids).mono ?_; rw [← HYS.out]; rintro e w2 ⟨v2, rfl, hO2, hE2⟩; obtain ⟨A2, c2, rfl, _, _⟩ := hO2.form; have HO2 := hid hO2.read; have HE2 := hid hE2; obtain ⟨hb0, hb1⟩ := KB.out _ hE2; clear hO2 hE2))
        go_ret
        exact ⟨rfl, HEW.out.trans (HE2.out.trans (HE3.out.trans (HE4.out.trans (HE5.out.trans (HE6.out.trans HE7.out)))))⟩
      · by_cases hm0 : many < 0
        · clear hs
          go_wp2_with (first
            | (go_at_call 47; refine (lSameInts _ _ _ _ (RI.ext HO2.out (HE3.out.trans (HE4.out.trans (HE5.out.trans HE6.out)))) (RI.ext HO3.out (HE4.out.trans (HE5.out.trans HE6.out)))).mono ?_; rintro e w7 ⟨rfl, hE7⟩; have HE7 := hid hE7; obtain ⟨hb0, hb1⟩ := KB.out _ (HE2.out.trans (HE3.out.trans (HE4.out.trans (HE5.out.trans (HE6.out.trans HE7.out))))); clear hE7)
            | (go_at_call 18; refine (sSpareCount _ _ C need _ (HO1.out.ext (HE2.out.trans (HE3.out.trans (HE4.out.trans HE5.out)))) (RI.ext HNW.out (HE2.out.trans (HE3.out.trans (HE4.out.trans HE5.out)))) HS.out.len HS.out.flat).mono ?_; rw [← HSV.out]; rintro e w6 ⟨rfl, hE6⟩; have HE6 := hid hE6; obtain ⟨hb0, hb1⟩ := KB.out _ (HE2.out.trans (HE3.out.trans (HE4.out.trans (HE5.out.trans HE6.out)))); clear hE6)
            | (go_at_call 36; refine (sClusterValid _ C _ (HO1.out.ext (HE2.out.trans (HE3.out.trans HE4.out))) HS.out.len HS.out.flat).mono ?_; rw [hv]; rintro e w5 ⟨rfl, hE5⟩; have HE5 := hid hE5; obtain ⟨hb0, hb1⟩ := KB.out _ (HE2.out.trans (HE3.out.trans (HE4.out.trans HE5.out))); clear hE5)
            | (go_at_call 47; refine (lSameInts _ _ _ _ (RI.ext HO2.out HE3.out) (RI.ext HO3.out (Ext.refl _))).mono ?_; rintro e w4 ⟨rfl, hE4⟩; have HE4 := hid hE4; obtain ⟨hb0, hb1⟩ := KB.out _ (HE2.out.trans (HE3.out.trans HE4.out)); clear hE4)
            | (go_at_call 46; refine (sScaleIn _ _ C need many _ (HO1.out.ext HE2.out) (RI.ext HNW.out HE2.out) HS.out.len HS.out.flat).mono ?_; rw [← HYS.out]; rintro e w3 ⟨v3, rfl, hO3, hE3⟩; obtain ⟨A3, c3, rfl, _, _⟩ := hO3.form; have HO3 := hid hO3.read; have HE3 := hid hE3; obtain ⟨hb0, hb1⟩ := KB.out _ (HE2.out.trans hE3); clear hO3 hE3)
            | (go_at_call 45; refine (iScaleIn _ _ C need many _ HO1.out HNW.out HS.out.len HS.out.flat HS.out.ids).mono ?_; rw [← HYS.out]; rintro e w2 ⟨v2, rfl, hO2, hE2⟩; obtain ⟨A2, c2, rfl, _, _⟩ := hO2.form; have HO2 := hid hO2.read; have HE2 := hid hE2; obtain ⟨hb0, hb1⟩ := KB.out _ hE2; clear hO2 hE2))
          go_ret
          exact ⟨rfl, HEW.out.trans (HE2.out.trans (HE3.out.trans (HE4.out.trans (HE5.out.trans (HE6.out.trans HE7.out)))))⟩
        · have hm9 : ¬ 999 < many := by omega
          obtain ⟨_, hnd, _⟩ := spareN_ge (show ¬ spareN C need < 0 by rw [← hs]; exact hs0)
          have hok : (clusOk C && needOk need) = true := by rw [hv, hnd]; rfl
          have hin : inB many 0 999 = true := by simp [inB]; omega
          have hcl := hv
          have HCL := hid hv
          have HND := hid hnd
          obtain ⟨D, hD⟩ := inS hcl need many C.units.length (Nat.le_refl _)
          have hye : ys = (inSt C.units (timesL C.room need) many (spareL C need) C.units.length).2 := by rw [HYS.out]; exact inN_ok hok hin
          have HDN : Hid (∀ (n : Nat) (i : Int), ys[n]? = some i → (openC (closeAll C (ys.take n)) i false).2 = 0) := hid (by rw [hye]; exact hD.done)
          have HDW : Hid (∀ (n : Nat) (i j : Int), ys[n]? = some i → ys[n + 1]? = some j → j < i) := hid (by rw [hye]; exact hD.down)
          have HDE : Hid (closeAll C ys = D) := hid (by rw [hye]; exact hD.eq)
          have HDD := hid hD
          clear hD hye hs hok hin hnd hcl
          go_wp2_with (first
            | (go_at_call 18; refine (sSpareCount _ _ C need _ (HO1.out.ext (HE2.out.trans (HE3.out.trans (HE4.out.trans HE5.out)))) (RI.ext HNW.out (HE2.out.trans (HE3.out.trans (HE4.out.trans HE5.out)))) HS.out.len HS.out.flat).mono ?_; rw [← HSV.out]; rintro e w6 ⟨rfl, hE6⟩; have HE6 := hid hE6; obtain ⟨hb0, hb1⟩ := KB.out _ (HE2.out.trans (HE3.out.trans (HE4.out.trans (HE5.out.trans HE6.out)))); clear hE6)
            | (go_at_call 36; refine (sClusterValid _ C _ (HO1.out.ext (HE2.out.trans (HE3.out.trans HE4.out))) HS.out.len HS.out.flat).mono ?_; rw [hv]; rintro e w5 ⟨rfl, hE5⟩; have HE5 := hid hE5; obtain ⟨hb0, hb1⟩ := KB.out _ (HE2.out.trans (HE3.out.trans (HE4.out.trans HE5.out))); clear hE5)
            | (go_at_call 47; refine (lSameInts _ _ _ _ (RI.ext HO2.out HE3.out) (RI.ext HO3.out (Ext.refl _))).mono ?_; rintro e w4 ⟨rfl, hE4⟩; have HE4 := hid hE4; obtain ⟨hb0, hb1⟩ := KB.out _ (HE2.out.trans (HE3.out.trans HE4.out)); clear hE4)
            | (go_at_call 46; refine (sScaleIn _ _ C need many _ (HO1.out.ext HE2.out) (RI.ext HNW.out HE2.out) HS.out.len HS.out.flat).mono ?_; rw [← HYS.out]; rintro e w3 ⟨v3, rfl, hO3, hE3⟩; obtain ⟨A3, c3, rfl, _, _⟩ := hO3.form; have HO3 := hid hO3.read; have HE3 := hid hE3; obtain ⟨hb0, hb1⟩ := KB.out _ (HE2.out.trans hE3); clear hO3 hE3)
            | (go_at_call 45; refine (iScaleIn _ _ C need many _ HO1.out HNW.out HS.out.len HS.out.flat HS.out.ids).mono ?_; rw [← HYS.out]; rintro e w2 ⟨v2, rfl, hO2, hE2⟩; obtain ⟨A2, c2, rfl, _, _⟩ := hO2.form; have HO2 := hid hO2.read; have HE2 := hid hE2; obtain ⟨hb0, hb1⟩ := KB.out _ hE2; clear hO2 hE2))

          have HQ2 := hid (HE3.out.trans (HE4.out.trans (HE5.out.trans HE6.out)))
          have HQ4 := hid (HE2.out.trans HQ2.out)
          by_cases hy0 : ys.length = 0
          · obtain ⟨H8, hH8⟩ : ∃ H8, H8 = w6.heap.size := ⟨_, rfl⟩
            obtain ⟨W8, hW8⟩ : ∃ W8, W8 = w6.alloc (.cells #[.slice Ar C.room.length cr, .slice Au C.units.length cu] 26) := ⟨_, rfl⟩
            have hE8 : Ext w6 W8 := by rw [hW8]; exact Ext.alloc _ _
            have HB8 : Hid (W8.heap[H8]? = some (.cells #[.slice Ar C.room.length cr, .slice Au C.units.length cu] 26 (0, 0))) := hid (by rw [hW8, hH8]; exact heap_alloc_new _ _)
            have HE8 := hid hE8
            have HH8 : Hid (w6.heap.size ≤ H8) := hid (by rw [hH8]; exact Nat.le_refl _)
            rw [← hW8, ← hH8]
            clear hW8 hH8 hE8
            go_loopw [9] (fun i wr => ∃ (k : Nat) (Ax : Option Addr) (cx : Nat) (Bx : Option Addr) (dx : Nat) (X : ClusD), k ≤ ys.length ∧ i = .int .i64 k ∧ Hid (X = closeAll C (ys.take k) ∧ SmallC X ∧ ClusV wr (.agg #[.slice Ax X.room.length cx, .slice Bx X.units.length dx]) X ∧ wr.heap[H8]? = some (.cells #[.slice Ax X.room.length cx, .slice Bx X.units.length dx] 26 (0, 0)) ∧ Ext w6 wr)) (fun i _ => ys.length - (intOf i).toNat)
            case atStart => exact ⟨0, Ar, cr, Au, cu, C, Nat.zero_le _, rfl, hid ⟨rfl, HS.out, HO1.out.ext (HQ4.out.trans HE8.out), HB8.out, HE8.out⟩⟩
            case round =>
              obtain ⟨k, Ax, cx, Bx, dx, X, hk, rfl, HH⟩ := hrel
              obtain ⟨hXE, hSX, hXV, hBX, hEX⟩ := HH.out
              have HXE := hid hXE
              have HSX := hid hSX
              have HXV := hid hXV
              have HBX := hid hBX
              have HEX := hid hEX
              clear hXE hSX hXV hBX hEX HH
              by_cases hkl : k < ys.length
              · exact absurd hkl (by omega)
              · have hkl' : ¬ (k : Int) < (ys.length : Int) := by omega
                have HXE : Hid (X = closeAll C ys) := hid (by rw [HXE.out, show k = ys.length by omega, List.take_length])
                have b80 := obj_cell HBX.out (i := 0) rfl
                have b81 := obj_cell HBX.out (i := 1) rfl
                have HXD : Hid (X = D) := hid (by rw [HXE.out, HDE.out])
                have HXL : Hid (X.units.length = C.units.length) := hid (by rw [HXD.out]; exact HDD.out.len)
                have hcl1 := (clusOk_len HCL.out).1
                have HU := hid (show RU wr (.slice Bx X.units.length dx) X.units by obtain ⟨_, _, he, _, h2⟩ := HXV.out; injection he with he; injection he with he; injection he with _ he; injection he with he _; rw [he]; exact h2)
                obtain ⟨ub, uo, rfl⟩ : ∃ ub uo, Bx = some ⟨ub, uo, none⟩ := by
                  obtain ⟨A', c', hvu, _, _, hgc⟩ := RU.get HU.out
                  injection hvu with e1 _ _
                  obtain ⟨ub, uo, u, At, ct, hA, _⟩ := hgc 0 (by have := HXL.out; omega)
                  exact ⟨ub, uo, by rw [e1, hA]⟩
                have KZ : Hid (∀ w', Ext wr w' → w'.cell? ⟨H8, 0, none⟩ = some (.slice Ax X.room.length cx) ∧ w'.cell? ⟨H8, 1, none⟩ = some (.slice (some ⟨ub, uo, none⟩) X.units.length dx)) := hid fun w' hw => ⟨obj_cell (hw.obj HBX.out) (i := 0) rfl, obj_cell (hw.obj HBX.out) (i := 1) rfl⟩
                clear b80 b81
                have hxu10 := HSX.out.units
                go_wp2
                go_loopw [12] (fun i wz => ∃ j : Nat, j ≤ X.units.length ∧ i = .int .i64 j ∧ Hid (Ext wr wz)) (fun i _ => X.units.length - (intOf i).toNat)
                case atStart => exact ⟨0, Nat.zero_le _, rfl, hid (Ext.refl _)⟩
                case round =>
                  obtain ⟨j, hj, rfl, hE⟩ := hrel
                  obtain ⟨b80, b81⟩ := KZ.out _ hE.out
                  by_cases hjl : j < X.units.length
                  · have ij : (j : Int) < (X.units.length : Int) := by omega
                    have i0 : (0 : Int) ≤ (j : Int) := by omega
                    obtain ⟨A', c', hvu, _, _, hgc⟩ := (RU.ext HU.out hE.out).get
                    injection hvu with e1 _ e3
                    subst e1 e3
                    obtain ⟨ub', uo', u, At, ct, hA, eu, u1, u2, _⟩ := hgc j hjl
                    injection hA with hA
                    injection hA with h1 h2 _
                    subst h1 h2
                    clear hgc
                    by_cases ho : u.opened = true
                    · by_cases ht : u.tasks.length = 0
                      · have ht0 : (u.tasks.length : Int) = 0 := by omega
                        have hte : u.tasks = [] := List.eq_nil_of_length_eq_zero ht
                        have hcx : clusOk X = true := by rw [HXD.out]; exact HDD.out.ok
                        obtain ⟨R, hR⟩ : ∃ R, R = openC X (j : Int) false := ⟨_, rfl⟩
                        have HRR := hid hR
                        have HSR : Hid (SmallC R.1) := hid (by rw [hR]; exact (few_open X _ false).small)
                        have hop := open_ok hcx eu.out false (by rw [ho]; rfl) hte
                        have HLT : Hid (¬ many ≤ spareN R.1 need) := hid (by
                          have h1 := HDD.out.rest j u (by have := HXL.out; omega) (by rw [← HXD.out]; exact eu.out) ho hte
                          have h2 := spare_close hcx eu.out hte ho need
                          have h3 : X.room = C.room := by rw [HXD.out]; exact HDD.out.room
                          rw [hR, hop, spareN_ok (clus_open hcx eu.out false (.inr hte)) HND.out, h2, h3, HXD.out]
                          omega)
                        have hlt : ¬ many ≤ spareN R.1 need := HLT.out
                        clear hR hop hcx hte ht
                        go_wp2_with (first
                          | (go_at_call 17; refine (iSpareCount _ _ R.1 need _ HO5.out (RI.ext HNW.out (HQ4.out.trans (HEX.out.trans HE5.out))) HSR.out.len HSR.out.flat HSR.out.ids).mono ?_; rintro e wy6 ⟨rfl, hE6⟩; have HE6 := hid (HE5.out.trans hE6); clear hE6)
                          | (go_at_call 43; refine (iClusterOpen _ X (j : Int) false _ (HXV.out.ext hE.out) HSX.out.len HSX.out.flat HSX.out.ids).mono ?_; rw [← HRR.out]; rintro e wy5 ⟨v5, rfl, hO5, hE5⟩; obtain ⟨A5, c5, B5, d5, rfl⟩ := hO5.form; obtain ⟨y0, y1, y0f, y1f, k1, k1f, hkk, _⟩ := box2 (heap_alloc_new wy5 (.cells #[.slice none 0 0, .slice none 0 0] 26)) (.slice A5 R.1.room.length c5) (.slice B5 R.1.units.length d5); have hx5 := Ext.alloc wy5 (.cells #[.slice A5 R.1.room.length c5, .slice B5 R.1.units.length d5] 26); have p0 := obj_cell (heap_alloc_new wy5 (.cells #[.slice A5 R.1.room.length c5, .slice B5 R.1.units.length d5] 26)) (i := 0) rfl; have p1 := obj_cell (heap_alloc_new wy5 (.cells #[.slice A5 R.1.room.length c5, .slice B5 R.1.units.length d5] 26)) (i := 1) rfl; have HO5 := hid (hO5.read.ext hx5); have HE5 := hid ((hE.out.trans hE5).trans hx5); clear hO5 hE5 hkk hx5))
                        go_roundw
                        case rel => exact ⟨j + 1, by omega, by go_num, HE6⟩
                        case measure => simp [intOf]; omega
                      · have ht0 : ¬ (u.tasks.length : Int) = 0 := by omega
                        go_wp2
                        go_roundw
                        case rel => exact ⟨j + 1, by omega, by go_num, hE⟩
                        case measure => simp [intOf]; omega
                    · have ho : u.opened = false := by simpa using ho
                      go_wp2
                      go_roundw
                      case rel => exact ⟨j + 1, by omega, by go_num, hE⟩
                      case measure => simp [intOf]; omega
                  · have ij : ¬ (j : Int) < (X.units.length : Int) := by omega
                    go_wp2
                    go_ret
                    exact ⟨rfl, HEW.out.trans (HQ4.out.trans (HEX.out.trans hE.out))⟩
          · obtain ⟨gy, oy, rfl⟩ := RI.some HO2.out (by omega)
            obtain ⟨H8, hH8⟩ : ∃ H8, H8 = w6.heap.size := ⟨_, rfl⟩
            obtain ⟨W8, hW8⟩ : ∃ W8, W8 = w6.alloc (.cells #[.slice Ar C.room.length cr, .slice Au C.units.length cu] 26) := ⟨_, rfl⟩
            have hE8 : Ext w6 W8 := by rw [hW8]; exact Ext.alloc _ _
            have HB8 : Hid (W8.heap[H8]? = some (.cells #[.slice Ar C.room.length cr, .slice Au C.units.length cu] 26 (0, 0))) := hid (by rw [hW8, hH8]; exact heap_alloc_new _ _)
            have HE8 := hid hE8
            have HH8 : Hid (w6.heap.size ≤ H8) := hid (by rw [hH8]; exact Nat.le_refl _)
            rw [← hW8, ← hH8]
            clear hW8 hH8 hE8
            go_loopw [9] (fun i wr => ∃ (k : Nat) (Ax : Option Addr) (cx : Nat) (Bx : Option Addr) (dx : Nat) (X : ClusD), k ≤ ys.length ∧ i = .int .i64 k ∧ Hid (X = closeAll C (ys.take k) ∧ SmallC X ∧ ClusV wr (.agg #[.slice Ax X.room.length cx, .slice Bx X.units.length dx]) X ∧ wr.heap[H8]? = some (.cells #[.slice Ax X.room.length cx, .slice Bx X.units.length dx] 26 (0, 0)) ∧ Ext w6 wr)) (fun i _ => ys.length - (intOf i).toNat)
            case atStart => exact ⟨0, Ar, cr, Au, cu, C, Nat.zero_le _, rfl, hid ⟨rfl, HS.out, HO1.out.ext (HQ4.out.trans HE8.out), HB8.out, HE8.out⟩⟩
            case round =>
              obtain ⟨k, Ax, cx, Bx, dx, X, hk, rfl, HH⟩ := hrel
              obtain ⟨hXE, hSX, hXV, hBX, hEX⟩ := HH.out
              have HXE := hid hXE
              have HSX := hid hSX
              have HXV := hid hXV
              have HBX := hid hBX
              have HEX := hid hEX
              clear hXE hSX hXV hBX hEX HH
              by_cases hkl : k < ys.length
              · rcases Nat.eq_zero_or_pos k with hk0 | hk0
                · obtain ⟨i, hyk⟩ : ∃ i, ys[k]? = some i := ⟨_, List.getElem?_eq_getElem hkl⟩
                  have HYK := hid hyk
                  clear hyk
                  obtain ⟨R, hR⟩ : ∃ R, R = openC X i false := ⟨_, rfl⟩
                  have HRR := hid hR
                  have HSR : Hid (SmallC R.1) := hid (by rw [hR]; exact (few_open X i false).small)
                  have hR0 : (R.2 != 0) = false := by
                    have h2 : R.2 = 0 := by rw [hR, HXE.out]; exact HDN.out _ _ HYK.out
                    rw [h2]
                    rfl
                  clear hR
                  have HYR := hid (RI.ext HO2.out (HQ2.out.trans HEX.out))
                  have CI := hid (RI.at2 HYR.out rfl HYK.out)
                  have ij0 : (0 : Int) ≤ (k : Int) := by omega
                  have ijl : (k : Int) < (ys.length : Int) := by omega
                  clear hk0
                  have KS : Hid (∀ w', Ext wr w' → w'.cell? ⟨H8, 0, none⟩ = some (.slice Ax X.room.length cx) ∧ w'.cell? ⟨H8, 1, none⟩ = some (.slice Bx X.units.length dx) ∧ w'.cell? ⟨gy, oy + k, none⟩ = some (.int .i64 i)) := hid fun w' hw => ⟨obj_cell (hw.obj HBX.out) (i := 0) rfl, obj_cell (hw.obj HBX.out) (i := 1) rfl, hw.cell CI.out⟩
                  have HD : Hid (Ext wr wr.drew) := hid (Below.drew (Below.refl _ _))
                  go_wp2
                  refine WG.start (fun w' => w'.cell? ⟨H8, 0, none⟩ = some (.slice Ax X.room.length cx) ∧ w'.cell? ⟨H8, 1, none⟩ = some (.slice Bx X.units.length dx) ∧ w'.cell? ⟨gy, oy + k, none⟩ = some (.int .i64 i)) [11] (by kernel_rfl) (by exact KS.out _ HD.out) (fun hHeld => ?_)
                  obtain ⟨pz, hpz⟩ : ∃ x, x = wr.drew := ⟨_, rfl⟩
                  rw [← hpz] at hHeld ⊢
                  have HX : Hid (Ext wr pz) := hid (by rw [hpz]; exact HD.out)
                  clear hpz
                  (refine WG.take (i := 0) (v := ?_) rfl (by kernel_rfl) (by kernel_rfl) (by kernel_rfl) (by kernel_rfl) (fun _ _ _ h => h) (Or.inl ⟨by rfl, ?_⟩) (by assumption) ?_; rotate_left; (intro w hSw; (try dsimp only at hSw); go_split_ands; go_simp; (try with_reducible rfl)); (try simp only [Act.put, List.setIfInBounds_toArray, List.set_cons_zero, List.set_cons_succ]))
                  (refine WG.take (i := 1) (v := ?_) rfl (by kernel_rfl) (by kernel_rfl) (by kernel_rfl) (by kernel_rfl) (fun _ _ _ h => h) (Or.inl ⟨by rfl, ?_⟩) (by assumption) ?_; rotate_left; (intro w hSw; (try dsimp only at hSw); go_split_ands; go_simp; (try with_reducible rfl)); (try simp only [Act.put, List.setIfInBounds_toArray, List.set_cons_zero, List.set_cons_succ]))
                  (refine WG.take (i := 2) (v := ?_) rfl (by kernel_rfl) (by kernel_rfl) (by kernel_rfl) (by kernel_rfl) (fun _ _ _ h => h) (Or.inl ⟨by rfl, ?_⟩) (by assumption) ?_; rotate_left; (intro w hSw; (try dsimp only at hSw); go_split_ands; go_simp; (try with_reducible rfl)); (try simp only [Act.put, List.setIfInBounds_toArray, List.set_cons_zero, List.set_cons_succ]))
                  (refine WG.take (i := 3) (v := ?_) rfl (by kernel_rfl) (by kernel_rfl) (by kernel_rfl) (by kernel_rfl) (fun _ _ _ h => h) (Or.inl ⟨by rfl, ?_⟩) (by assumption) ?_; rotate_left; (intro w hSw; (try dsimp only at hSw); go_split_ands; go_simp; (try with_reducible rfl)); (try simp only [Act.put, List.setIfInBounds_toArray, List.set_cons_zero, List.set_cons_succ]))
                  (refine WG.take (i := 4) (v := ?_) rfl (by kernel_rfl) (by kernel_rfl) (by kernel_rfl) (by kernel_rfl) (fun _ _ _ h => h) (Or.inl ⟨by rfl, ?_⟩) (by assumption) ?_; rotate_left; (intro w hSw; (try dsimp only at hSw); go_split_ands; go_simp; (try with_reducible rfl)); (try simp only [Act.put, List.setIfInBounds_toArray, List.set_cons_zero, List.set_cons_succ]))
                  refine WG.two (i := 5) (j := 9) rfl rfl (by kernel_rfl) (fun K hK => ?_) (fun K hK => ?_)
                  · go_simp
                    refine (iClusterOpen _ X i false _ (HXV.out.ext HX.out) HSX.out.len HSX.out.flat HSX.out.ids).mono ?_
                    rw [← HRR.out]
                    rintro e p1 ⟨v5, rfl, hO5, hE⟩
                    obtain ⟨A5, c5, B5, d5, rfl⟩ := hO5.form
                    have HO5 := hid hO5
                    clear hO5
                    (try dsimp only)
                    have HX := hid (HX.out.trans hE)
                    refine hK.out _ _ (by exact KS.out _ HX.out) (fun hHeld => ?_)
                    clear hK K hE
                    (try simp only [Act.put, List.setIfInBounds_toArray, List.set_cons_zero, List.set_cons_succ])
                    (refine WG.take (i := 6) (v := ?_) rfl (by kernel_rfl) (by kernel_rfl) (by kernel_rfl) (by kernel_rfl) (fun _ _ _ h => h) (Or.inl ⟨by rfl, ?_⟩) (by assumption) ?_; rotate_left; (intro w hSw; (try dsimp only at hSw); go_split_ands; go_simp; (try with_reducible rfl)); (try simp only [Act.put, List.setIfInBounds_toArray, List.set_cons_zero, List.set_cons_succ]))
                    (refine WG.take (i := 7) (v := ?_) rfl (by kernel_rfl) (by kernel_rfl) (by kernel_rfl) (by kernel_rfl) (fun _ _ _ h => h) (Or.inl ⟨by rfl, ?_⟩) (by assumption) ?_; rotate_left; (intro w hSw; (try dsimp only at hSw); go_split_ands; go_simp; (try with_reducible rfl)); (try simp only [Act.put, List.setIfInBounds_toArray, List.set_cons_zero, List.set_cons_succ]))
                    (refine WG.take (i := 8) (v := ?_) rfl (by kernel_rfl) (by kernel_rfl) (by kernel_rfl) (by kernel_rfl) (fun _ _ _ h => h) (Or.inl ⟨by rfl, ?_⟩) (by assumption) ?_; rotate_left; (intro w hSw; (try dsimp only at hSw); go_split_ands; go_simp; (try with_reducible rfl)); (try simp only [Act.put, List.setIfInBounds_toArray, List.set_cons_zero, List.set_cons_succ]))
                    refine WG.one (i := 9) rfl (by kernel_rfl) (fun K hK => ?_)
                    go_simp
                    refine hK.out _ _ (by exact KS.out _ (HX.out.trans (Ext.alloc _ _))) (fun hHeld => ?_)
                    clear hK K
                    (try simp only [Act.put, List.setIfInBounds_toArray, List.set_cons_zero, List.set_cons_succ])
                    obtain ⟨p2, hp2⟩ : ∃ x, x = p1.alloc (.cells #[.slice none 0 0, .slice none 0 0] 26) := ⟨_, rfl⟩
                    obtain ⟨B10, hB10⟩ : ∃ x, x = p1.heap.size := ⟨_, rfl⟩
                    have hE : Ext p1 p2 := by rw [hp2]; exact Ext.alloc _ _
                    have HB10 : Hid (p2.heap[B10]? = some (.cells #[.slice none 0 0, .slice none 0 0] 26 (0, 0))) := hid (by rw [hp2, hB10]; exact heap_alloc_new _ _)
                    have HL10 : Hid (wr.heap.size ≤ B10) := hid (by rw [hB10]; exact HX.out.size)
                    rw [← hp2] at hHeld ⊢
                    rw [← hB10]
                    have HX := hid (HX.out.trans hE)
                    have HO5 := hid (HO5.out.ext hE)
                    clear hp2 hB10 hE
                    obtain ⟨y0, y1, y0f, y1f, k1, k1f, hkk, hsm⟩ := box2 HB10.out (.slice A5 R.1.room.length c5) (.slice B5 R.1.units.length d5)
                    have HEV : Hid (Ext wr ((p2.setCell ⟨B10, 0, none⟩ (.slice A5 R.1.room.length c5)).setCell ⟨B10, 1, none⟩ (.slice B5 R.1.units.length d5))) := hid (Below.setCell (Below.setCell HX.out HL10.out _) HL10.out _)
                    have HOV := hid (OCl.same HO5.out (hsm _ notClu))
                    refine WG.one (i := 10) rfl (by kernel_rfl) (fun K hK => ?_)
                    go_simp
                    refine hK.out _ _ (by exact KS.out _ HEV.out) (fun hHeld => ?_)
                    clear hK K
                    (try simp only [Act.put, List.setIfInBounds_toArray, List.set_cons_zero, List.set_cons_succ])
                    refine WG.last (i := 11) rfl (by kernel_rfl) (by kernel_rfl) (fun K hK => ?_)
                    go_simp
                    refine hK.out _ _ ?_
                    clear hK K
                    (try simp only [Act.put, List.setIfInBounds_toArray, List.set_cons_zero, List.set_cons_succ])
                    refine WG.done (by kernel_rfl) ?_
                    obtain ⟨V, hV⟩ : ∃ V, V = (p2.setCell ⟨B10, 0, none⟩ (.slice A5 R.1.room.length c5)).setCell ⟨B10, 1, none⟩ (.slice B5 R.1.units.length d5) := ⟨_, rfl⟩
                    rw [← hV] at HEV HOV hkk hHeld ⊢
                    clear hV y0 y1 y0f y1f k1 k1f hsm hHeld
                    have HBV := hid hkk
                    clear hkk
                    obtain ⟨z0, z1, z0f, z1f, l1, l1f, hll, hsl⟩ := box2 (HEV.out.obj HBX.out) (.slice A5 R.1.room.length c5) (.slice B5 R.1.units.length d5)
                    have t0 := obj_cell HBV.out (i := 0) rfl
                    have t1 := obj_cell HBV.out (i := 1) rfl
                    have HLL := hid hll
                    have HSL := hid hsl
                    clear hll hsl
                    go_wp2
                    go_roundw
                    case rel => exact ⟨k + 1, A5, c5, B5, d5, R.1, by omega, by go_num, hid ⟨by rw [closeAll_take C HYK.out, ← HXE.out, HRR.out], HSR.out, (OCl.same HOV.out (HSL.out _ notClu)).read, HLL.out, (by first | exact Ext.trans (Below.setCell (p := ⟨H8, 1, none⟩) (Below.setCell (p := ⟨H8, 0, none⟩) (HEX.out.trans HEV.out) HH8.out _) HH8.out _) (Below.drew (Below.refl _ _)) | exact Below.setCell (p := ⟨H8, 1, none⟩) (Below.setCell (p := ⟨H8, 0, none⟩) (HEX.out.trans HEV.out) HH8.out _) HH8.out _)⟩⟩
                    case measure => simp [intOf]; omega
                  · go_simp
                    refine hK.out _ _ (by exact KS.out _ (HX.out.trans (Ext.alloc _ _))) (fun hHeld => ?_)
                    clear hK K
                    (try simp only [Act.put, List.setIfInBounds_toArray, List.set_cons_zero, List.set_cons_succ])
                    obtain ⟨p3, hp3⟩ : ∃ x, x = pz.alloc (.cells #[.slice none 0 0, .slice none 0 0] 26) := ⟨_, rfl⟩
                    obtain ⟨B10, hB10⟩ : ∃ x, x = pz.heap.size := ⟨_, rfl⟩
                    have hE : Ext pz p3 := by rw [hp3]; exact Ext.alloc _ _
                    have HB10 : Hid (p3.heap[B10]? = some (.cells #[.slice none 0 0, .slice none 0 0] 26 (0, 0))) := hid (by rw [hp3, hB10]; exact heap_alloc_new _ _)
                    have HL10 : Hid (wr.heap.size ≤ B10) := hid (by rw [hB10]; exact HX.out.size)
                    rw [← hp3] at hHeld ⊢
                    rw [← hB10]
                    have HX := hid (HX.out.trans hE)
                    clear hp3 hB10 hE
                    refine WG.one (i := 5) rfl (by kernel_rfl) (fun K hK => ?_)
                    go_simp
                    refine (iClusterOpen _ X i false _ (HXV.out.ext HX.out) HSX.out.len HSX.out.flat HSX.out.ids).mono ?_
                    rw [← HRR.out]
                    rintro e p4 ⟨v5, rfl, hO5, hE⟩
                    obtain ⟨A5, c5, B5, d5, rfl⟩ := hO5.form
                    have HO5 := hid hO5
                    clear hO5
                    (try dsimp only)
                    have HX := hid (HX.out.trans hE)
                    have HB10 := hid (hE.obj HB10.out)
                    refine hK.out _ _ (by exact KS.out _ HX.out) (fun hHeld => ?_)
                    clear hK K hE
                    (try simp only [Act.put, List.setIfInBounds_toArray, List.set_cons_zero, List.set_cons_succ])
                    (refine WG.take (i := 6) (v := ?_) rfl (by kernel_rfl) (by kernel_rfl) (by kernel_rfl) (by kernel_rfl) (fun _ _ _ h => h) (Or.inl ⟨by rfl, ?_⟩) (by assumption) ?_; rotate_left; (intro w hSw; (try dsimp only at hSw); go_split_ands; go_simp; (try with_reducible rfl)); (try simp only [Act.put, List.setIfInBounds_toArray, List.set_cons_zero, List.set_cons_succ]))
                    (refine WG.take (i := 7) (v := ?_) rfl (by kernel_rfl) (by kernel_rfl) (by kernel_rfl) (by kernel_rfl) (fun _ _ _ h => h) (Or.inl ⟨by rfl, ?_⟩) (by assumption) ?_; rotate_left; (intro w hSw; (try dsimp only at hSw); go_split_ands; go_simp; (try with_reducible rfl)); (try simp only [Act.put, List.setIfInBounds_toArray, List.set_cons_zero, List.set_cons_succ]))
                    (refine WG.take (i := 8) (v := ?_) rfl (by kernel_rfl) (by kernel_rfl) (by kernel_rfl) (by kernel_rfl) (fun _ _ _ h => h) (Or.inl ⟨by rfl, ?_⟩) (by assumption) ?_; rotate_left; (intro w hSw; (try dsimp only at hSw); go_split_ands; go_simp; (try with_reducible rfl)); (try simp only [Act.put, List.setIfInBounds_toArray, List.set_cons_zero, List.set_cons_succ]))
                    obtain ⟨y0, y1, y0f, y1f, k1, k1f, hkk, hsm⟩ := box2 HB10.out (.slice A5 R.1.room.length c5) (.slice B5 R.1.units.length d5)
                    have HEV : Hid (Ext wr ((p4.setCell ⟨B10, 0, none⟩ (.slice A5 R.1.room.length c5)).setCell ⟨B10, 1, none⟩ (.slice B5 R.1.units.length d5))) := hid (Below.setCell (Below.setCell HX.out HL10.out _) HL10.out _)
                    have HOV := hid (OCl.same HO5.out (hsm _ notClu))
                    refine WG.one (i := 10) rfl (by kernel_rfl) (fun K hK => ?_)
                    go_simp
                    refine hK.out _ _ (by exact KS.out _ HEV.out) (fun hHeld => ?_)
                    clear hK K
                    (try simp only [Act.put, List.setIfInBounds_toArray, List.set_cons_zero, List.set_cons_succ])
                    refine WG.last (i := 11) rfl (by kernel_rfl) (by kernel_rfl) (fun K hK => ?_)
                    go_simp
                    refine hK.out _ _ ?_
                    clear hK K
                    (try simp only [Act.put, List.setIfInBounds_toArray, List.set_cons_zero, List.set_cons_succ])
                    refine WG.done (by kernel_rfl) ?_
                    obtain ⟨V, hV⟩ : ∃ V, V = (p4.setCell ⟨B10, 0, none⟩ (.slice A5 R.1.room.length c5)).setCell ⟨B10, 1, none⟩ (.slice B5 R.1.units.length d5) := ⟨_, rfl⟩
                    rw [← hV] at HEV HOV hkk hHeld ⊢
                    clear hV y0 y1 y0f y1f k1 k1f hsm hHeld
                    have HBV := hid hkk
                    clear hkk
                    obtain ⟨z0, z1, z0f, z1f, l1, l1f, hll, hsl⟩ := box2 (HEV.out.obj HBX.out) (.slice A5 R.1.room.length c5) (.slice B5 R.1.units.length d5)
                    have t0 := obj_cell HBV.out (i := 0) rfl
                    have t1 := obj_cell HBV.out (i := 1) rfl
                    have HLL := hid hll
                    have HSL := hid hsl
                    clear hll hsl
                    go_wp2
                    go_roundw
                    case rel => exact ⟨k + 1, A5, c5, B5, d5, R.1, by omega, by go_num, hid ⟨by rw [closeAll_take C HYK.out, ← HXE.out, HRR.out], HSR.out, (OCl.same HOV.out (HSL.out _ notClu)).read, HLL.out, (by first | exact Ext.trans (Below.setCell (p := ⟨H8, 1, none⟩) (Below.setCell (p := ⟨H8, 0, none⟩) (HEX.out.trans HEV.out) HH8.out _) HH8.out _) (Below.drew (Below.refl _ _)) | exact Below.setCell (p := ⟨H8, 1, none⟩) (Below.setCell (p := ⟨H8, 0, none⟩) (HEX.out.trans HEV.out) HH8.out _) HH8.out _)⟩⟩
                    case measure => simp [intOf]; omega
                · obtain ⟨i, hyk⟩ : ∃ i, ys[k]? = some i := ⟨_, List.getElem?_eq_getElem hkl⟩
                  have HYK := hid hyk
                  clear hyk
                  obtain ⟨R, hR⟩ : ∃ R, R = openC X i false := ⟨_, rfl⟩
                  have HRR := hid hR
                  have HSR : Hid (SmallC R.1) := hid (by rw [hR]; exact (few_open X i false).small)
                  have hR0 : (R.2 != 0) = false := by
                    have h2 : R.2 = 0 := by rw [hR, HXE.out]; exact HDN.out _ _ HYK.out
                    rw [h2]
                    rfl
                  clear hR
                  have HYR := hid (RI.ext HO2.out (HQ2.out.trans HEX.out))
                  have CI := hid (RI.at2 HYR.out rfl HYK.out)
                  have ij0 : (0 : Int) ≤ (k : Int) := by omega
                  have ijl : (k : Int) < (ys.length : Int) := by omega
                  clear hk0
                  have KS : Hid (∀ w', Ext wr w' → w'.cell? ⟨H8, 0, none⟩ = some (.slice Ax X.room.length cx) ∧ w'.cell? ⟨H8, 1, none⟩ = some (.slice Bx X.units.length dx) ∧ w'.cell? ⟨gy, oy + k, none⟩ = some (.int .i64 i)) := hid fun w' hw => ⟨obj_cell (hw.obj HBX.out) (i := 0) rfl, obj_cell (hw.obj HBX.out) (i := 1) rfl, hw.cell CI.out⟩
                  have HD : Hid (Ext wr wr.drew) := hid (Below.drew (Below.refl _ _))
                  go_wp2
                  refine WG.start (fun w' => w'.cell? ⟨H8, 0, none⟩ = some (.slice Ax X.room.length cx) ∧ w'.cell? ⟨H8, 1, none⟩ = some (.slice Bx X.units.length dx) ∧ w'.cell? ⟨gy, oy + k, none⟩ = some (.int .i64 i)) [11] (by kernel_rfl) (by exact KS.out _ HD.out) (fun hHeld => ?_)
                  obtain ⟨pz, hpz⟩ : ∃ x, x = wr.drew := ⟨_, rfl⟩
                  rw [← hpz] at hHeld ⊢
                  have HX : Hid (Ext wr pz) := hid (by rw [hpz]; exact HD.out)
                  clear hpz
                  (refine WG.take (i := 0) (v := ?_) rfl (by kernel_rfl) (by kernel_rfl) (by kernel_rfl) (by kernel_rfl) (fun _ _ _ h => h) (Or.inl ⟨by rfl, ?_⟩) (by assumption) ?_; rotate_left; (intro w hSw; (try dsimp only at hSw); go_split_ands; go_simp; (try with_reducible rfl)); (try simp only [Act.put, List.setIfInBounds_toArray, List.set_cons_zero, List.set_cons_succ]))
                  (refine WG.take (i := 1) (v := ?_) rfl (by kernel_rfl) (by kernel_rfl) (by kernel_rfl) (by kernel_rfl) (fun _ _ _ h => h) (Or.inl ⟨by rfl, ?_⟩) (by assumption) ?_; rotate_left; (intro w hSw; (try dsimp only at hSw); go_split_ands; go_simp; (try with_reducible rfl)); (try simp only [Act.put, List.setIfInBounds_toArray, List.set_cons_zero, List.set_cons_succ]))
                  (refine WG.take (i := 2) (v := ?_) rfl (by kernel_rfl) (by kernel_rfl) (by kernel_rfl) (by kernel_rfl) (fun _ _ _ h => h) (Or.inl ⟨by rfl, ?_⟩) (by assumption) ?_; rotate_left; (intro w hSw; (try dsimp only at hSw); go_split_ands; go_simp; (try with_reducible rfl)); (try simp only [Act.put, List.setIfInBounds_toArray, List.set_cons_zero, List.set_cons_succ]))
                  (refine WG.take (i := 3) (v := ?_) rfl (by kernel_rfl) (by kernel_rfl) (by kernel_rfl) (by kernel_rfl) (fun _ _ _ h => h) (Or.inl ⟨by rfl, ?_⟩) (by assumption) ?_; rotate_left; (intro w hSw; (try dsimp only at hSw); go_split_ands; go_simp; (try with_reducible rfl)); (try simp only [Act.put, List.setIfInBounds_toArray, List.set_cons_zero, List.set_cons_succ]))
                  (refine WG.take (i := 4) (v := ?_) rfl (by kernel_rfl) (by kernel_rfl) (by kernel_rfl) (by kernel_rfl) (fun _ _ _ h => h) (Or.inl ⟨by rfl, ?_⟩) (by assumption) ?_; rotate_left; (intro w hSw; (try dsimp only at hSw); go_split_ands; go_simp; (try with_reducible rfl)); (try simp only [Act.put, List.setIfInBounds_toArray, List.set_cons_zero, List.set_cons_succ]))
                  refine WG.two (i := 5) (j := 9) rfl rfl (by kernel_rfl) (fun K hK => ?_) (fun K hK => ?_)
                  · go_simp
                    refine (iClusterOpen _ X i false _ (HXV.out.ext HX.out) HSX.out.len HSX.out.flat HSX.out.ids).mono ?_
                    rw [← HRR.out]
                    rintro e p1 ⟨v5, rfl, hO5, hE⟩
                    obtain ⟨A5, c5, B5, d5, rfl⟩ := hO5.form
                    have HO5 := hid hO5
                    clear hO5
                    (try dsimp only)
                    have HX := hid (HX.out.trans hE)
                    refine hK.out _ _ (by exact KS.out _ HX.out) (fun hHeld => ?_)
                    clear hK K hE
                    (try simp only [Act.put, List.setIfInBounds_toArray, List.set_cons_zero, List.set_cons_succ])
                    (refine WG.take (i := 6) (v := ?_) rfl (by kernel_rfl) (by kernel_rfl) (by kernel_rfl) (by kernel_rfl) (fun _ _ _ h => h) (Or.inl ⟨by rfl, ?_⟩) (by assumption) ?_; rotate_left; (intro w hSw; (try dsimp only at hSw); go_split_ands; go_simp; (try with_reducible rfl)); (try simp only [Act.put, List.setIfInBounds_toArray, List.set_cons_zero, List.set_cons_succ]))
                    (refine WG.take (i := 7) (v := ?_) rfl (by kernel_rfl) (by kernel_rfl) (by kernel_rfl) (by kernel_rfl) (fun _ _ _ h => h) (Or.inl ⟨by rfl, ?_⟩) (by assumption) ?_; rotate_left; (intro w hSw; (try dsimp only at hSw); go_split_ands; go_simp; (try with_reducible rfl)); (try simp only [Act.put, List.setIfInBounds_toArray, List.set_cons_zero, List.set_cons_succ]))
                    (refine WG.take (i := 8) (v := ?_) rfl (by kernel_rfl) (by kernel_rfl) (by kernel_rfl) (by kernel_rfl) (fun _ _ _ h => h) (Or.inl ⟨by rfl, ?_⟩) (by assumption) ?_; rotate_left; (intro w hSw; (try dsimp only at hSw); go_split_ands; go_simp; (try with_reducible rfl)); (try simp only [Act.put, List.setIfInBounds_toArray, List.set_cons_zero, List.set_cons_succ]))
                    refine WG.one (i := 9) rfl (by kernel_rfl) (fun K hK => ?_)
                    go_simp
                    refine hK.out _ _ (by exact KS.out _ (HX.out.trans (Ext.alloc _ _))) (fun hHeld => ?_)
                    clear hK K
                    (try simp only [Act.put, List.setIfInBounds_toArray, List.set_cons_zero, List.set_cons_succ])
                    obtain ⟨p2, hp2⟩ : ∃ x, x = p1.alloc (.cells #[.slice none 0 0, .slice none 0 0] 26) := ⟨_, rfl⟩
                    obtain ⟨B10, hB10⟩ : ∃ x, x = p1.heap.size := ⟨_, rfl⟩
                    have hE : Ext p1 p2 := by rw [hp2]; exact Ext.alloc _ _
                    have HB10 : Hid (p2.heap[B10]? = some (.cells #[.slice none 0 0, .slice none 0 0] 26 (0, 0))) := hid (by rw [hp2, hB10]; exact heap_alloc_new _ _)
                    have HL10 : Hid (wr.heap.size ≤ B10) := hid (by rw [hB10]; exact HX.out.size)
                    rw [← hp2] at hHeld ⊢
                    rw [← hB10]
                    have HX := hid (HX.out.trans hE)
                    have HO5 := hid (HO5.out.ext hE)
                    clear hp2 hB10 hE
                    obtain ⟨y0, y1, y0f, y1f, k1, k1f, hkk, hsm⟩ := box2 HB10.out (.slice A5 R.1.room.length c5) (.slice B5 R.1.units.length d5)
                    have HEV : Hid (Ext wr ((p2.setCell ⟨B10, 0, none⟩ (.slice A5 R.1.room.length c5)).setCell ⟨B10, 1, none⟩ (.slice B5 R.1.units.length d5))) := hid (Below.setCell (Below.setCell HX.out HL10.out _) HL10.out _)
                    have HOV := hid (OCl.same HO5.out (hsm _ notClu))
                    refine WG.one (i := 10) rfl (by kernel_rfl) (fun K hK => ?_)
                    go_simp
                    refine hK.out _ _ (by exact KS.out _ HEV.out) (fun hHeld => ?_)
                    clear hK K
                    (try simp only [Act.put, List.setIfInBounds_toArray, List.set_cons_zero, List.set_cons_succ])
                    refine WG.last (i := 11) rfl (by kernel_rfl) (by kernel_rfl) (fun K hK => ?_)
                    go_simp
                    refine hK.out _ _ ?_
                    clear hK K
                    (try simp only [Act.put, List.setIfInBounds_toArray, List.set_cons_zero, List.set_cons_succ])
                    refine WG.done (by kernel_rfl) ?_
                    obtain ⟨V, hV⟩ : ∃ V, V = (p2.setCell ⟨B10, 0, none⟩ (.slice A5 R.1.room.length c5)).setCell ⟨B10, 1, none⟩ (.slice B5 R.1.units.length d5) := ⟨_, rfl⟩
                    rw [← hV] at HEV HOV hkk hHeld ⊢
                    clear hV y0 y1 y0f y1f k1 k1f hsm hHeld
                    have HBV := hid hkk
                    clear hkk
                    obtain ⟨z0, z1, z0f, z1f, l1, l1f, hll, hsl⟩ := box2 (HEV.out.obj HBX.out) (.slice A5 R.1.room.length c5) (.slice B5 R.1.units.length d5)
                    have t0 := obj_cell HBV.out (i := 0) rfl
                    have t1 := obj_cell HBV.out (i := 1) rfl
                    have HLL := hid hll
                    have HSL := hid hsl
                    clear hll hsl
                    go_wp2
                    go_roundw
                    case rel => exact ⟨k + 1, A5, c5, B5, d5, R.1, by omega, by go_num, hid ⟨by rw [closeAll_take C HYK.out, ← HXE.out, HRR.out], HSR.out, (OCl.same HOV.out (HSL.out _ notClu)).read, HLL.out, (by first | exact Ext.trans (Below.setCell (p := ⟨H8, 1, none⟩) (Below.setCell (p := ⟨H8, 0, none⟩) (HEX.out.trans HEV.out) HH8.out _) HH8.out _) (Below.drew (Below.refl _ _)) | exact Below.setCell (p := ⟨H8, 1, none⟩) (Below.setCell (p := ⟨H8, 0, none⟩) (HEX.out.trans HEV.out) HH8.out _) HH8.out _)⟩⟩
                    case measure => simp [intOf]; omega
                  · go_simp
                    refine hK.out _ _ (by exact KS.out _ (HX.out.trans (Ext.alloc _ _))) (fun hHeld => ?_)
                    clear hK K
                    (try simp only [Act.put, List.setIfInBounds_toArray, List.set_cons_zero, List.set_cons_succ])
                    obtain ⟨p3, hp3⟩ : ∃ x, x = pz.alloc (.cells #[.slice none 0 0, .slice none 0 0] 26) := ⟨_, rfl⟩
                    obtain ⟨B10, hB10⟩ : ∃ x, x = pz.heap.size := ⟨_, rfl⟩
                    have hE : Ext pz p3 := by rw [hp3]; exact Ext.alloc _ _
                    have HB10 : Hid (p3.heap[B10]? = some (.cells #[.slice none 0 0, .slice none 0 0] 26 (0, 0))) := hid (by rw [hp3, hB10]; exact heap_alloc_new _ _)
                    have HL10 : Hid (wr.heap.size ≤ B10) := hid (by rw [hB10]; exact HX.out.size)
                    rw [← hp3] at hHeld ⊢
                    rw [← hB10]
                    have HX := hid (HX.out.trans hE)
                    clear hp3 hB10 hE
                    refine WG.one (i := 5) rfl (by kernel_rfl) (fun K hK => ?_)
                    go_simp
                    refine (iClusterOpen _ X i false _ (HXV.out.ext HX.out) HSX.out.len HSX.out.flat HSX.out.ids).mono ?_
                    rw [← HRR.out]
                    rintro e p4 ⟨v5, rfl, hO5, hE⟩
                    obtain ⟨A5, c5, B5, d5, rfl⟩ := hO5.form
                    have HO5 := hid hO5
                    clear hO5
                    (try dsimp only)
                    have HX := hid (HX.out.trans hE)
                    have HB10 := hid (hE.obj HB10.out)
                    refine hK.out _ _ (by exact KS.out _ HX.out) (fun hHeld => ?_)
                    clear hK K hE
                    (try simp only [Act.put, List.setIfInBounds_toArray, List.set_cons_zero, List.set_cons_succ])
                    (refine WG.take (i := 6) (v := ?_) rfl (by kernel_rfl) (by kernel_rfl) (by kernel_rfl) (by kernel_rfl) (fun _ _ _ h => h) (Or.inl ⟨by rfl, ?_⟩) (by assumption) ?_; rotate_left; (intro w hSw; (try dsimp only at hSw); go_split_ands; go_simp; (try with_reducible rfl)); (try simp only [Act.put, List.setIfInBounds_toArray, List.set_cons_zero, List.set_cons_succ]))
                    (refine WG.take (i := 7) (v := ?_) rfl (by kernel_rfl) (by kernel_rfl) (by kernel_rfl) (by kernel_rfl) (fun _ _ _ h => h) (Or.inl ⟨by rfl, ?_⟩) (by assumption) ?_; rotate_left; (intro w hSw; (try dsimp only at hSw); go_split_ands; go_simp; (try with_reducible rfl)); (try simp only [Act.put, List.setIfInBounds_toArray, List.set_cons_zero, List.set_cons_succ]))
                    (refine WG.take (i := 8) (v := ?_) rfl (by kernel_rfl) (by kernel_rfl) (by kernel_rfl) (by kernel_rfl) (fun _ _ _ h => h) (Or.inl ⟨by rfl, ?_⟩) (by assumption) ?_; rotate_left; (intro w hSw; (try dsimp only at hSw); go_split_ands; go_simp; (try with_reducible rfl)); (try simp only [Act.put, List.setIfInBounds_toArray, List.set_cons_zero, List.set_cons_succ]))
                    obtain ⟨y0, y1, y0f, y1f, k1, k1f, hkk, hsm⟩ := box2 HB10.out (.slice A5 R.1.room.length c5) (.slice B5 R.1.units.length d5)
                    have HEV : Hid (Ext wr ((p4.setCell ⟨B10, 0, none⟩ (.slice A5 R.1.room.length c5)).setCell ⟨B10, 1, none⟩ (.slice B5 R.1.units.length d5))) := hid (Below.setCell (Below.setCell HX.out HL10.out _) HL10.out _)
                    have HOV := hid (OCl.same HO5.out (hsm _ notClu))
                    refine WG.one (i := 10) rfl (by kernel_rfl) (fun K hK => ?_)
                    go_simp
                    refine hK.out _ _ (by exact KS.out _ HEV.out) (fun hHeld => ?_)
                    clear hK K
                    (try simp only [Act.put, List.setIfInBounds_toArray, List.set_cons_zero, List.set_cons_succ])
                    refine WG.last (i := 11) rfl (by kernel_rfl) (by kernel_rfl) (fun K hK => ?_)
                    go_simp
                    refine hK.out _ _ ?_
                    clear hK K
                    (try simp only [Act.put, List.setIfInBounds_toArray, List.set_cons_zero, List.set_cons_succ])
                    refine WG.done (by kernel_rfl) ?_
                    obtain ⟨V, hV⟩ : ∃ V, V = (p4.setCell ⟨B10, 0, none⟩ (.slice A5 R.1.room.length c5)).setCell ⟨B10, 1, none⟩ (.slice B5 R.1.units.length d5) := ⟨_, rfl⟩
                    rw [← hV] at HEV HOV hkk hHeld ⊢
                    clear hV y0 y1 y0f y1f k1 k1f hsm hHeld
                    have HBV := hid hkk
                    clear hkk
                    obtain ⟨z0, z1, z0f, z1f, l1, l1f, hll, hsl⟩ := box2 (HEV.out.obj HBX.out) (.slice A5 R.1.room.length c5) (.slice B5 R.1.units.length d5)
                    have t0 := obj_cell HBV.out (i := 0) rfl
                    have t1 := obj_cell HBV.out (i := 1) rfl
                    have HLL := hid hll
                    have HSL := hid hsl
                    clear hll hsl
                    go_wp2
                    go_roundw
                    case rel => exact ⟨k + 1, A5, c5, B5, d5, R.1, by omega, by go_num, hid ⟨by rw [closeAll_take C HYK.out, ← HXE.out, HRR.out], HSR.out, (OCl.same HOV.out (HSL.out _ notClu)).read, HLL.out, (by first | exact Ext.trans (Below.setCell (p := ⟨H8, 1, none⟩) (Below.setCell (p := ⟨H8, 0, none⟩) (HEX.out.trans HEV.out) HH8.out _) HH8.out _) (Below.drew (Below.refl _ _)) | exact Below.setCell (p := ⟨H8, 1, none⟩) (Below.setCell (p := ⟨H8, 0, none⟩) (HEX.out.trans HEV.out) HH8.out _) HH8.out _)⟩⟩
                    case measure => simp [intOf]; omega
              · have hkl' : ¬ (k : Int) < (ys.length : Int) := by omega
                have HXE : Hid (X = closeAll C ys) := hid (by rw [HXE.out, show k = ys.length by omega, List.take_length])
                have b80 := obj_cell HBX.out (i := 0) rfl
                have b81 := obj_cell HBX.out (i := 1) rfl
                have HXD : Hid (X = D) := hid (by rw [HXE.out, HDE.out])
                have HXL : Hid (X.units.length = C.units.length) := hid (by rw [HXD.out]; exact HDD.out.len)
                have hcl1 := (clusOk_len HCL.out).1
                have HU := hid (show RU wr (.slice Bx X.units.length dx) X.units by obtain ⟨_, _, he, _, h2⟩ := HXV.out; injection he with he; injection he with he; injection he with _ he; injection he with he _; rw [he]; exact h2)
                obtain ⟨ub, uo, rfl⟩ : ∃ ub uo, Bx = some ⟨ub, uo, none⟩ := by
                  obtain ⟨A', c', hvu, _, _, hgc⟩ := RU.get HU.out
                  injection hvu with e1 _ _
                  obtain ⟨ub, uo, u, At, ct, hA, _⟩ := hgc 0 (by have := HXL.out; omega)
                  exact ⟨ub, uo, by rw [e1, hA]⟩
                have KZ : Hid (∀ w', Ext wr w' → w'.cell? ⟨H8, 0, none⟩ = some (.slice Ax X.room.length cx) ∧ w'.cell? ⟨H8, 1, none⟩ = some (.slice (some ⟨ub, uo, none⟩) X.units.length dx)) := hid fun w' hw => ⟨obj_cell (hw.obj HBX.out) (i := 0) rfl, obj_cell (hw.obj HBX.out) (i := 1) rfl⟩
                clear b80 b81
                have hxu10 := HSX.out.units
                go_wp2
                go_loopw [12] (fun i wz => ∃ j : Nat, j ≤ X.units.length ∧ i = .int .i64 j ∧ Hid (Ext wr wz)) (fun i _ => X.units.length - (intOf i).toNat)
                case atStart => exact ⟨0, Nat.zero_le _, rfl, hid (Ext.refl _)⟩
                case round =>
                  obtain ⟨j, hj, rfl, hE⟩ := hrel
                  obtain ⟨b80, b81⟩ := KZ.out _ hE.out
                  by_cases hjl : j < X.units.length
                  · have ij : (j : Int) < (X.units.length : Int) := by omega
                    have i0 : (0 : Int) ≤ (j : Int) := by omega
                    obtain ⟨A', c', hvu, _, _, hgc⟩ := (RU.ext HU.out hE.out).get
                    injection hvu with e1 _ e3
                    subst e1 e3
                    obtain ⟨ub', uo', u, At, ct, hA, eu, u1, u2, _⟩ := hgc j hjl
                    injection hA with hA
                    injection hA with h1 h2 _
                    subst h1 h2
                    clear hgc
                    by_cases ho : u.opened = true
                    · by_cases ht : u.tasks.length = 0
                      · have ht0 : (u.tasks.length : Int) = 0 := by omega
                        have hte : u.tasks = [] := List.eq_nil_of_length_eq_zero ht
                        have hcx : clusOk X = true := by rw [HXD.out]; exact HDD.out.ok
                        obtain ⟨R, hR⟩ : ∃ R, R = openC X (j : Int) false := ⟨_, rfl⟩
                        have HRR := hid hR
                        have HSR : Hid (SmallC R.1) := hid (by rw [hR]; exact (few_open X _ false).small)
                        have hop := open_ok hcx eu.out false (by rw [ho]; rfl) hte
                        have HLT : Hid (¬ many ≤ spareN R.1 need) := hid (by
                          have h1 := HDD.out.rest j u (by have := HXL.out; omega) (by rw [← HXD.out]; exact eu.out) ho hte
                          have h2 := spare_close hcx eu.out hte ho need
                          have h3 : X.room = C.room := by rw [HXD.out]; exact HDD.out.room
                          rw [hR, hop, spareN_ok (clus_open hcx eu.out false (.inr hte)) HND.out, h2, h3, HXD.out]
                          omega)
                        have hlt : ¬ many ≤ spareN R.1 need := HLT.out
                        clear hR hop hcx hte ht
                        go_wp2_with (first
                          | (go_at_call 17; refine (iSpareCount _ _ R.1 need _ HO5.out (RI.ext HNW.out (HQ4.out.trans (HEX.out.trans HE5.out))) HSR.out.len HSR.out.flat HSR.out.ids).mono ?_; rintro e wy6 ⟨rfl, hE6⟩; have HE6 := hid (HE5.out.trans hE6); clear hE6)
                          | (go_at_call 43; refine (iClusterOpen _ X (j : Int) false _ (HXV.out.ext hE.out) HSX.out.len HSX.out.flat HSX.out.ids).mono ?_; rw [← HRR.out]; rintro e wy5 ⟨v5, rfl, hO5, hE5⟩; obtain ⟨A5, c5, B5, d5, rfl⟩ := hO5.form; obtain ⟨y0, y1, y0f, y1f, k1, k1f, hkk, _⟩ := box2 (heap_alloc_new wy5 (.cells #[.slice none 0 0, .slice none 0 0] 26)) (.slice A5 R.1.room.length c5) (.slice B5 R.1.units.length d5); have hx5 := Ext.alloc wy5 (.cells #[.slice A5 R.1.room.length c5, .slice B5 R.1.units.length d5] 26); have p0 := obj_cell (heap_alloc_new wy5 (.cells #[.slice A5 R.1.room.length c5, .slice B5 R.1.units.length d5] 26)) (i := 0) rfl; have p1 := obj_cell (heap_alloc_new wy5 (.cells #[.slice A5 R.1.room.length c5, .slice B5 R.1.units.length d5] 26)) (i := 1) rfl; have HO5 := hid (hO5.read.ext hx5); have HE5 := hid ((hE.out.trans hE5).trans hx5); clear hO5 hE5 hkk hx5))
                        go_roundw
                        case rel => exact ⟨j + 1, by omega, by go_num, HE6⟩
                        case measure => simp [intOf]; omega
                      · have ht0 : ¬ (u.tasks.length : Int) = 0 := by omega
                        go_wp2
                        go_roundw
                        case rel => exact ⟨j + 1, by omega, by go_num, hE⟩
                        case measure => simp [intOf]; omega
                    · have ho : u.opened = false := by simpa using ho
                      go_wp2
                      go_roundw
                      case rel => exact ⟨j + 1, by omega, by go_num, hE⟩
                      case measure => simp [intOf]; omega
                  · have ij : ¬ (j : Int) < (X.units.length : Int) := by omega
                    go_wp2
                    go_ret
                    exact ⟨rfl, HEW.out.trans (HQ4.out.trans (HEX.out.trans hE.out))⟩
    · have hv : clusOk C = false := by simpa using hv
      clear hs
      go_wp2_with (first
        | (go_at_call 47; refine (lSameInts _ _ _ _ (RI.ext HO2.out (HE3.out.trans (HE4.out.trans HE5.out))) (RI.ext HO3.out (HE4.out.trans HE5.out))).mono ?_; rintro e w6 ⟨rfl, hE6⟩; have HE6 := hid hE6; obtain ⟨hb0, hb1⟩ := KB.out _ (HE2.out.trans (HE3.out.trans (HE4.out.trans (HE5.out.trans HE6.out)))); clear hE6)
        | (go_at_call 36; refine (sClusterValid _ C _ (HO1.out.ext (HE2.out.trans (HE3.out.trans HE4.out))) HS.out.len HS.out.flat).mono ?_; rw [hv]; rintro e w5 ⟨rfl, hE5⟩; have HE5 := hid hE5; obtain ⟨hb0, hb1⟩ := KB.out _ (HE2.out.trans (HE3.out.trans (HE4.out.trans HE5.out))); clear hE5)
        | (go_at_call 47; refine (lSameInts _ _ _ _ (RI.ext HO2.out HE3.out) (RI.ext HO3.out (Ext.refl _))).mono ?_; rintro e w4 ⟨rfl, hE4⟩; have HE4 := hid hE4; obtain ⟨hb0, hb1⟩ := KB.out _ (HE2.out.trans (HE3.out.trans HE4.out)); clear hE4)
        | (go_at_call 46; refine (sScaleIn _ _ C need many _ (HO1.out.ext HE2.out) (RI.ext HNW.out HE2.out) HS.out.len HS.out.flat).mono ?_; rw [← HYS.out]; rintro e w3 ⟨v3, rfl, hO3, hE3⟩; obtain ⟨A3, c3, rfl, _, _⟩ := hO3.form; have HO3 := hid hO3.read; have HE3 := hid hE3; obtain ⟨hb0, hb1⟩ := KB.out _ (HE2.out.trans hE3); clear hO3 hE3)
        | (go_at_call 45; refine (iScaleIn _ _ C need many _ HO1.out HNW.out HS.out.len HS.out.flat HS.out.ids).mono ?_; rw [← HYS.out]; rintro e w2 ⟨v2, rfl, hO2, hE2⟩; obtain ⟨A2, c2, rfl, _, _⟩ := hO2.form; have HO2 := hid hO2.read; have HE2 := hid hE2; obtain ⟨hb0, hb1⟩ := KB.out _ hE2; clear hO2 hE2))
      go_ret
      exact ⟨rfl, HEW.out.trans (HE2.out.trans (HE3.out.trans (HE4.out.trans (HE5.out.trans HE6.out))))⟩
  · have i1 : (1048576 : Int) < (bs.length : Int) := by omega
    go_enter Tryz.func15, Tryz.ntmps15
    go_wp2
    go_ret
    exact ⟨rfl, Ext.refl _⟩

end Go.Proofs.YtfgibhdglbjadaaGreat
