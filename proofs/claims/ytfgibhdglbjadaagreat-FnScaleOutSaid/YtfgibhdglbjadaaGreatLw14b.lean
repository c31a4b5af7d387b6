/- The law FnScaleOut. -/
import Derived.Test.YtfgibhdglbjadaaGreatK19
import Derived.Test.YtfgibhdglbjadaaGreatK9
import Derived.Test.YtfgibhdglbjadaaGreatK11
import Derived.Test.YtfgibhdglbjadaaGreatK18
import Derived.Test.YtfgibhdglbjadaaGreatK5
namespace Go.Proofs.YtfgibhdglbjadaaGreat
open Go.RowKit
set_option maxRecDepth 4000

theorem ClusV.same {w w' : World} {v : Value} {C : ClusD} (h : ClusV w v C) (hs : SameT (fun t => t = 57 ∨ t = 34 ∨ t = 3) w w') : ClusV w' v C :=
  let ⟨rv, uv, h1, h2, h3⟩ := h; ⟨rv, uv, h1, h2.same (hs.mono (fun _ ht => .inr (.inr ht))), h3.same hs⟩
theorem out_parts {C : ClusD} {need : List Int} {want : Int} (h : ¬ outN C need want < 0) : ∃ m : Nat, outN C need want = m ∧ want ≤ spareL C need + (m : Int) * timesL C.room need ∧ (∀ j : Nat, j < m → spareL C need + (j : Int) * timesL C.room need < want) ∧ m + openN C ≤ C.units.length ∧ clusOk C = true ∧ needOk need = true := by
  obtain ⟨h1, h2⟩ := outN_ge h
  have h3 := outN_ok h1 h2
  rw [Bool.and_eq_true] at h1
  rw [h3] at h ⊢
  rcases enough_cases (spareL C need) (timesL C.room need) want (C.units.length - openN C + 1) with ⟨i, hi, he, hw, hlt⟩ | ⟨he, _⟩
  · have := openTo_le C.units C.units.length
    have ho : openN C ≤ C.units.length := this
    exact ⟨i, he, hw, hlt, by omega, h1.1, h1.2⟩
  · rw [he] at h
    exact absurd (by decide) h
set_option maxHeartbeats 8000000 in
theorem lawScaleOut (v : Value) (bs : List Int) (w : World) (h : XBy w v bs) :
    Calls Tryz.prog 13 #[v] w (RetB w true) := by
  have HB := hid h
  obtain ⟨A, c, rfl, _⟩ := h
  by_cases h1 : bs.length ≤ 1048576
  · have i1 : ¬ (1048576 : Int) < (bs.length : Int) := by omega
    go_enter Tryz.func13, Tryz.ntmps13
    go_wp2_with (go_at_call 40; refine (dDrawScaleOut _ bs _ HB.out (by omega)).mono ?_; rintro e w1 ⟨cv, nv, C, need, want, rfl, hO, hN, hNL, hNB, hS, hWB, hE⟩; obtain ⟨Ar, cr, Au, cu, rfl⟩ := hO.form; have HN := hid hN.read; obtain ⟨An, cn, rfl, _, _⟩ := hN.form; have HC := hid hO.read; have HNL := hid hNL; have HNB := hid hNB; have HS := hid hS; have HE := hid hE; obtain ⟨y0, y1, y0f, y1f, k1, k1f, hkk, _⟩ := box2 (heap_alloc_new w1 (.cells #[.slice none 0 0, .slice none 0 0] 26)) (.slice Ar C.room.length cr) (.slice Au C.units.length cu); clear hkk hO hN hNL hNB hS hE)
    obtain ⟨W, hW⟩ : ∃ W, W = w1.alloc (.cells #[.slice Ar C.room.length cr, .slice Au C.units.length cu] 26) := ⟨_, rfl⟩
    have hEW : Ext w1 W := by rw [hW]; exact Ext.alloc _ _
    have hbx : W.heap[w1.heap.size]? = some (.cells #[.slice Ar C.room.length cr, .slice Au C.units.length cu] 26 (0, 0)) := by rw [hW]; exact heap_alloc_new _ _
    have KB : Hid (∀ w', Ext W w' → w'.cell? ⟨w1.heap.size, 0, none⟩ = some (.slice Ar C.room.length cr) ∧ w'.cell? ⟨w1.heap.size, 1, none⟩ = some (.slice Au C.units.length cu)) := hid fun w' hw => ⟨obj_cell (hw.obj hbx) (i := 0) rfl, obj_cell (hw.obj hbx) (i := 1) rfl⟩
    have hb0 := obj_cell hbx (i := 0) rfl
    have hb1 := obj_cell hbx (i := 1) rfl
    have HEW := hid (HE.out.trans hEW)
    have HO1 := hid (HC.out.ext hEW)
    have HNW := hid (RI.ext HN.out hEW)
    rw [← hW]
    clear hW y0 y1 y0f y1f k1 k1f hEW hbx
    obtain ⟨o, ho⟩ : ∃ o, o = outN C need want := ⟨_, rfl⟩
    have HOV := hid ho
    clear ho
    by_cases hs1 : o < 0
    · go_wp2_with (first
        | (go_at_call 42; refine (sScaleOut _ _ C need want _ (HO1.out.ext HE2.out) (RI.ext HNW.out HE2.out) HS.out.len HS.out.flat).mono ?_; rintro e w3 ⟨rfl, hE3⟩; rw [← HOV.out]; have HE3 := hid hE3; obtain ⟨hb0, hb1⟩ := KB.out _ (HE2.out.trans HE3.out); clear hE3)
        | (go_at_call 41; refine (iScaleOut _ _ C need want _ (HO1.out.ext (Ext.refl _)) (RI.ext HNW.out (Ext.refl _)) HS.out.len HS.out.flat HS.out.ids).mono ?_; rintro e w2 ⟨rfl, hE2⟩; rw [← HOV.out]; have HE2 := hid hE2; obtain ⟨hb0, hb1⟩ := KB.out _ HE2.out; clear hE2))
      go_ret
      exact ⟨rfl, HEW.out.trans (HE2.out.trans HE3.out)⟩
    · obtain ⟨m, hm, hmw, hmo, hml, hv, hn2⟩ := out_parts (show ¬ outN C need want < 0 by rw [← HOV.out]; exact hs1)
      rw [← HOV.out] at hm
      subst hm
      have HV := hid hv
      have HMW := hid hmw
      have HMO := hid hmo
      have HML := hid hml
      have HN2 := hid hn2
      have hlen := (clusOk_len hv).2
      have hnm : ¬ (m : Int) < 0 := by omega
      have hm10 : m ≤ 10 := by omega
      clear hmw hmo hml hv hn2 hs1
      go_wp2_with (first
        | (go_at_call 42; refine (sScaleOut _ _ C need want _ (HO1.out.ext HE2.out) (RI.ext HNW.out HE2.out) HS.out.len HS.out.flat).mono ?_; rintro e w3 ⟨rfl, hE3⟩; rw [← HOV.out]; have HE3 := hid hE3; obtain ⟨hb0, hb1⟩ := KB.out _ (HE2.out.trans HE3.out); clear hE3)
        | (go_at_call 41; refine (iScaleOut _ _ C need want _ (HO1.out.ext (Ext.refl _)) (RI.ext HNW.out (Ext.refl _)) HS.out.len HS.out.flat HS.out.ids).mono ?_; rintro e w2 ⟨rfl, hE2⟩; rw [← HOV.out]; have HE2 := hid hE2; obtain ⟨hb0, hb1⟩ := KB.out _ HE2.out; clear hE2))
      obtain ⟨P, hP⟩ : ∃ P, P = w3.alloc (.cells #[.slice Ar C.room.length cr, .slice Au C.units.length cu] 26) := ⟨_, rfl⟩
      have hE3P : Ext w3 P := by rw [hP]; exact Ext.alloc _ _
      have hbP : P.heap[w3.heap.size]? = some (.cells #[.slice Ar C.room.length cr, .slice Au C.units.length cu] 26 (0, 0)) := by rw [hP]; exact heap_alloc_new _ _
      rw [← hP]
      clear hP
      obtain ⟨b8, hb8⟩ : ∃ b8, b8 = w3.heap.size := ⟨_, rfl⟩
      have HB8 := hid hb8
      rw [← hb8] at hbP ⊢
      clear hb8
      have HBP := hid hbP
      have HE3P := hid hE3P
      clear hbP hE3P
      go_loopw [9] (fun i wr => ∃ (k : Nat) (X : ClusD) (Ax : Option Addr) (cx : Nat) (Ux : Option Addr) (dx : Nat), k ≤ m ∧ i = .int .i64 k ∧ Hid (X = openMore C k) ∧ Hid (wr.heap[b8]? = some (.cells #[.slice Ax X.room.length cx, .slice Ux X.units.length dx] 26 (0, 0))) ∧ Hid (ClusV wr (.agg #[.slice Ax X.room.length cx, .slice Ux X.units.length dx]) X) ∧ Hid (Ext w3 wr)) (fun i _ => m - (intOf i).toNat)
      case atStart => exact ⟨0, C, Ar, cr, Au, cu, Nat.zero_le _, rfl, hid rfl, HBP, hid (HO1.out.ext ((HE2.out.trans HE3.out).trans HE3P.out)), HE3P⟩
      case round =>
        obtain ⟨k, X, Ax, cx, Ux, dx, hk, rfl, hX, hb, hXV, hE⟩ := hrel
        have hom := openMore_ok HV.out need k (by have := HML.out; omega)
        rw [← hX.out] at hom
        obtain ⟨x1, x2, x3, x4, x5⟩ := hom
        have HSX := hid (small_ok x1)
        have HX1 := hid x1
        have HXL := hid x3
        have HXS : Hid (spareN X need = spareL C need + (k : Int) * timesL C.room need) := hid (by rw [spareN_ok x1 HN2.out, x4])
        have HXO := hid x5
        have HQ : Hid (Ext W wr) := hid ((HE2.out.trans HE3.out).trans hE.out)
        have hx0 := obj_cell hb.out (i := 0) rfl
        have hx1 := obj_cell hb.out (i := 1) rfl
        obtain ⟨qb0, qb1⟩ := KB.out _ HQ.out
        have hwb : w3.heap.size ≤ b8 := Nat.le_of_eq HB8.out.symm
        have HWB := hid hwb
        clear x1 x2 x3 x4 x5 hwb
        by_cases hkm : k < m
        · have ikm : (k : Int) < (m : Int) := by omega
          obtain ⟨z, hz⟩ : ∃ z, z = spareN X need := ⟨_, rfl⟩
          have HZ := hid hz
          have hzw : ¬ want ≤ z := by rw [hz, HXS.out]; have := HMO.out k hkm; omega
          have hzw' : z < want := by omega
          clear hz
          go_wp2_with (go_at_call 17; refine (iSpareCount _ _ X need _ hXV.out (RI.ext HNW.out HQ.out) HSX.out.len HSX.out.flat HSX.out.ids).mono ?_; rintro e w4 ⟨rfl, hE4⟩; rw [← HZ.out]; have HE4 := hid hE4; have Hb4 := hid (hE4.obj hb.out); have hx0 := obj_cell Hb4.out (i := 0) rfl; have hx1 := obj_cell Hb4.out (i := 1) rfl; obtain ⟨qb0, qb1⟩ := KB.out _ (HQ.out.trans hE4); clear hE4)
          go_loopw [10] (fun i wr => ∃ j : Nat, j ≤ C.units.length ∧ i = .int .i64 j ∧ Hid (∀ (i : Nat) u, i < j → X.units[i]? = some u → u.opened = true) ∧ Hid (Ext w4 wr)) (fun i _ => C.units.length - (intOf i).toNat)
          case atStart => exact ⟨0, Nat.zero_le _, rfl, hid (fun i u h => absurd h (by omega)), hid (Ext.refl _)⟩
          case round =>
            obtain ⟨j, hj, rfl, hall, hE5⟩ := hrel
            have hq5 := HE4.out.trans hE5.out
            have Hb5 := hid (hE5.out.obj Hb4.out)
            have hx0 := obj_cell Hb5.out (i := 0) rfl
            have hx1 := obj_cell Hb5.out (i := 1) rfl
            obtain ⟨qb0, qb1⟩ := KB.out _ (HQ.out.trans hq5)
            have HQ5 := hid hq5
            have hlenX := HXL.out
            clear hq5
            by_cases hjl : j < C.units.length
            · have ij : (j : Int) < (C.units.length : Int) := by omega
              have ijx : (j : Int) < (X.units.length : Int) := by omega
              have i0 : (0 : Int) ≤ (j : Int) := by omega
              obtain ⟨A', c', hvu, _, _, hgu⟩ := RU.get (show RU wr (.slice Ux X.units.length dx) X.units by obtain ⟨_, _, he, _, h2⟩ := hXV.out.ext HQ5.out; injection he with he; injection he with he; injection he with _ he; injection he with he _; rw [he]; exact h2)
              injection hvu with e1 _ e3
              subst e1 e3
              obtain ⟨ub, uo, u, At, ct, rfl, eu, u1, _, _⟩ := hgu j (by omega)
              clear hgu hlenX
              by_cases huo : u.opened = true
              · rw [huo] at u1
                go_wp2
                go_roundw
                case rel => exact ⟨j + 1, by omega, by go_num, hid (fun i v hi hv => by
                  by_cases hij : i = j
                  · subst hij
                    rw [eu.out] at hv
                    injection hv with hv
                    rw [← hv]; exact huo
                  · exact hall.out i v (by omega) hv), hid (hE5.out.trans (Ext.drewN _ 0))⟩
                case measure => simp [intOf]; omega
              · have huo : u.opened = false := by simpa using huo
                rw [huo] at u1
                have hfs : firstShut X = j := idxI_hit (p := fun u : UnitD => !u.opened) eu.out (by rw [huo]; rfl) (fun i y hi hy => by rw [hall.out i y hi hy]; rfl)
                obtain ⟨R, hR⟩ : ∃ R, R = openC X (j : Int) true := ⟨_, rfl⟩
                have HRR := hid hR
                have HSR : Hid (SmallC R.1) := hid (by rw [hR]; exact (few_open X _ true).small)
                have HR1 : Hid (R.1 = openMore C (k + 1)) := hid (by show _ = (openC (openMore C k) (firstShut (openMore C k)) true).1; rw [← hX.out, hfs, hR])
                clear hR hfs huo
                go_wp2_with (go_at_call 43; refine (iClusterOpen _ X (j : Int) true _ (hXV.out.ext HQ5.out) HSX.out.len HSX.out.flat HSX.out.ids).mono ?_; rw [← HRR.out]; rintro e w6 ⟨v6, rfl, hO6, hE6⟩; obtain ⟨A6, c6, B6, d6, rfl⟩ := hO6.form; obtain ⟨y0, y1, y0f, y1f, k1, k1f, hkk, _⟩ := box2 (heap_alloc_new w6 (.cells #[.slice none 0 0, .slice none 0 0] 26)) (.slice A6 R.1.room.length c6) (.slice B6 R.1.units.length d6); have hx6 := Ext.alloc w6 (.cells #[.slice A6 R.1.room.length c6, .slice B6 R.1.units.length d6] 26); have HO6 := hid (hO6.read.ext hx6); have hn6 := heap_alloc_new w6 (.cells #[.slice A6 R.1.room.length c6, .slice B6 R.1.units.length d6] 26); have n0 := obj_cell hn6 (i := 0) rfl; have n1 := obj_cell hn6 (i := 1) rfl; have Hb6 := hid ((hE6.trans hx6).obj Hb5.out); obtain ⟨z0, z1, z0f, z1f, l1, l1f, hll, hsm⟩ := box2 Hb6.out (.slice A6 R.1.room.length c6) (.slice B6 R.1.units.length d6); have HLL := hid hll; have HSM := hid hsm; have HE6 := hid (hE6.trans hx6); clear hO6 hE6 hkk hx6 hn6 hll hsm)
                go_roundw
                case rel => exact ⟨k + 1, R.1, A6, c6, B6, d6, by omega, by go_num, HR1, HLL, hid (ClusV.same HO6.out (HSM.out _ notClu)), hid (Below.setCell (Below.setCell (hE.out.trans (HQ5.out.trans HE6.out)) HWB.out _) HWB.out _)⟩
                case measure => simp [intOf]; omega
            · exfalso
              have hno : openN X = X.units.length := by
                rw [openN_eq]
                refine List.countP_eq_length.2 fun u hu => ?_
                obtain ⟨i, hi⟩ := List.getElem?_of_mem hu
                exact hall.out i u (by have := (List.getElem?_eq_some_iff.1 hi).1; omega) hi
              have := HXO.out
              have := HML.out
              omega
        · have ikm : ¬ (k : Int) < (m : Int) := by omega
          have hkm : k = m := by omega
          obtain ⟨z, hz⟩ : ∃ z, z = spareN X need := ⟨_, rfl⟩
          have HZ := hid hz
          have hzw : want ≤ z := by rw [hz, HXS.out, hkm]; exact HMW.out
          have hzd : decide (want ≤ z) = true := by simpa using hzw
          clear hz hkm
          go_wp2_with (go_at_call 17; refine (iSpareCount _ _ X need _ hXV.out (RI.ext HNW.out HQ.out) HSX.out.len HSX.out.flat HSX.out.ids).mono ?_; rintro e w4 ⟨rfl, hE4⟩; rw [← HZ.out]; have HE4 := hid hE4; clear hE4)
          go_ret
          exact ⟨rfl, HEW.out.trans (HQ.out.trans HE4.out)⟩
  · have i1 : (1048576 : Int) < (bs.length : Int) := by omega
    go_enter Tryz.func13, Tryz.ntmps13
    go_wp2
    go_ret
    exact ⟨rfl, Ext.refl _⟩

end Go.Proofs.YtfgibhdglbjadaaGreat
