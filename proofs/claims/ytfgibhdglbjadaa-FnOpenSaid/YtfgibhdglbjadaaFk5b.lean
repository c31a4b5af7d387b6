/- The law FnOpen. -/
import Derived.Test.YtfgibhdglbjadaaK9
import Derived.Test.YtfgibhdglbjadaaK11
import Derived.Test.YtfgibhdglbjadaaK12
import Derived.Test.YtfgibhdglbjadaaK8
namespace Go.Proofs.Ytfgibhdglbjadaa
open Go.RowKit
set_option maxRecDepth 4000

theorem openC_none {C : ClusD} (h : clusOk C = true) {node : Int} (hn : ¬ (0 ≤ node ∧ node < (C.units.length : Int))) (op : Bool) : openC C node op = (C, 4) := by
  have h2 : inB node 0 ((C.units.length : Int) - 1) = false := by
    rw [← Bool.not_eq_true, inB, Bool.and_eq_true, decide_eq_true_eq, decide_eq_true_eq]
    omega
  unfold openC
  rw [if_pos h, h2]
  rfl
theorem openC_at {C : ClusD} (h : clusOk C = true) {k : Nat} {x : UnitD} (hk : C.units[k]? = some x) (op : Bool) : openC C k op = if x.opened == op then (C, 2) else if 0 < x.tasks.length then (C, 5) else (⟨C.room, C.units.set k ⟨op, x.tasks⟩⟩, 0) := by
  have hlt := (List.getElem?_eq_some_iff.1 hk).1
  refine open_at h ?_ hk
  rw [inB, Bool.and_eq_true, decide_eq_true_eq, decide_eq_true_eq]
  omega
set_option maxHeartbeats 8000000 in
theorem lawOpen (v : Value) (bs : List Int) (w : World) (h : XBy w v bs) :
    Calls Try.prog 7 #[v] w (RetB w true) := by
  have HB := hid h
  obtain ⟨A, c, rfl, _⟩ := h
  by_cases h1 : bs.length ≤ 1048576
  · have i1 : ¬ (1048576 : Int) < (bs.length : Int) := by omega
    go_enter Try.func7, Try.ntmps7
    go_wp2_with (go_at_call 37; refine (dDrawOpen _ bs _ HB.out (by omega)).mono ?_; rintro e w1 ⟨cv, C, node, op, rfl, hO, hS, hnd, hE⟩; obtain ⟨Ar, cr, Au, cu, rfl⟩ := hO.form; have HC := hid hO.read; have HS := hid hS; have HE := hid hE; obtain ⟨y0, y1, y0f, y1f, k1, k1f, hkk, _⟩ := box2 (heap_alloc_new w1 (.cells #[.slice none 0 0, .slice none 0 0] 26)) (.slice Ar C.room.length cr) (.slice Au C.units.length cu); clear hkk hO hS hE)
    obtain ⟨W, hW⟩ : ∃ W, W = w1.alloc (.cells #[.slice Ar C.room.length cr, .slice Au C.units.length cu] 26) := ⟨_, rfl⟩
    have hEW : Ext w1 W := by rw [hW]; exact Ext.alloc _ _
    have hbx : W.heap[w1.heap.size]? = some (.cells #[.slice Ar C.room.length cr, .slice Au C.units.length cu] 26 (0, 0)) := by rw [hW]; exact heap_alloc_new _ _
    have KB : Hid (∀ w', Ext W w' → w'.cell? ⟨w1.heap.size, 0, none⟩ = some (.slice Ar C.room.length cr) ∧ w'.cell? ⟨w1.heap.size, 1, none⟩ = some (.slice Au C.units.length cu)) := hid fun w' hw => ⟨obj_cell (hw.obj hbx) (i := 0) rfl, obj_cell (hw.obj hbx) (i := 1) rfl⟩
    have hb0 := obj_cell hbx (i := 0) rfl
    have hb1 := obj_cell hbx (i := 1) rfl
    have HEW := hid (HE.out.trans hEW)
    have HCW := hid (HC.out.ext hEW)
    rw [← hW]
    clear hW y0 y1 y0f y1f k1 k1f hEW hbx
    obtain ⟨R, hR⟩ : ∃ R, R = openC C node op := ⟨_, rfl⟩
    have HRR := hid hR
    clear hR
    by_cases h0 : R.2 = 0
    · have hv : clusOk C = true := by
        cases hc : clusOk C with
        | true => rfl
        | false =>
          have hh := HRR.out
          unfold openC at hh
          rw [if_neg (by rw [hc]; simp)] at hh
          rw [hh] at h0
          cases h0
      have hth : 0 ≤ node ∧ node < (C.units.length : Int) := by
        refine Classical.byContradiction fun hn => ?_
        have hh := HRR.out
        rw [openC_none hv hn] at hh
        rw [hh] at h0
        cases h0
      obtain ⟨hn0, hnl⟩ := hth
      obtain ⟨k, rfl⟩ : ∃ k : Nat, node = k := ⟨node.toNat, by omega⟩
      have hkl : k < C.units.length := by omega
      obtain ⟨u, hu⟩ : ∃ u, C.units[k]? = some u := ⟨_, List.getElem?_eq_getElem hkl⟩
      have hRat := HRR.out.trans (openC_at hv hu op)
      have hou : (u.opened == op) = false := by
        cases hc : u.opened == op with
        | false => rfl
        | true =>
          rw [hc] at hRat
          simp at hRat
          rw [hRat] at h0
          cases h0
      rw [hou] at hRat
      have htz : ¬ 0 < u.tasks.length := by
        intro hc
        simp only [Bool.false_eq_true, if_false, if_pos hc] at hRat
        rw [hRat] at h0
        cases h0
      simp only [Bool.false_eq_true, if_false, if_neg htz] at hRat
      have htn : u.tasks = [] := List.eq_nil_of_length_eq_zero (by omega)
      have hop : u.opened = !op := by
        revert hou
        cases u.opened <;> cases op <;> simp
      have hR1 : R.1 = ⟨C.room, C.units.set k ⟨op, u.tasks⟩⟩ := by rw [hRat]
      have hcl1 : clusOk R.1 = true := by rw [hR1]; exact clus_open hv hu op (.inr htn)
      have hl2 : R.1.units.length = C.units.length := by rw [hR1]; exact List.length_set
      have hYk : R.1.units[k]? = some ⟨op, u.tasks⟩ := by rw [hR1]; exact List.getElem?_set_self hkl
      have HY : Hid (openC R.1 k (!op) = (C, 0)) := hid (by
        rw [openC_at hcl1 hYk]
        have e1 : (op == !op) = false := by cases op <;> rfl
        simp only [e1, Bool.false_eq_true, if_false, if_neg htz]
        rw [hR1]
        simp only [List.set_set]
        rw [show (⟨!op, u.tasks⟩ : UnitD) = u by rw [← hop], set_same hu])
      have HSR : Hid (SmallC R.1) := hid (by rw [HRR.out]; exact (few_open C k op).small)
      have HJ : Hid (∀ (j : Nat) y, j ≠ k → C.units[j]? = some y → R.1.units[j]? = some y) := hid fun j y hj hy => by rw [hR1, ← hy]; exact List.getElem?_set_ne (Ne.symm hj)
      have HL2 := hid hl2
      have HYK := hid hYk
      have ikl : (k : Int) < (R.1.units.length : Int) := by rw [hl2]; omega
      have ikn : (0 : Int) ≤ (k : Int) := by omega
      clear hRat hou htz htn hop hR1 hcl1 hl2 hYk hu hv

      go_wp2_with (first
        | (go_at_call 38; have hq := HF4.out; refine (iClusterOpen _ R.1 _ _ _ (HO23.out.ext hq) HSR.out.len HSR.out.flat HSR.out.ids).mono ?_; rw [HY.out]; rintro e w5 ⟨v5, rfl, hO5, hE5⟩; obtain ⟨A5, c5, B5, d5, rfl⟩ := hO5.form; obtain ⟨y0, y1, y0f, y1f, k1, k1f, hkk, _⟩ := box2 (heap_alloc_new w5 (.cells #[.slice none 0 0, .slice none 0 0] 26)) (.slice A5 C.room.length c5) (.slice B5 C.units.length d5); have hx5 := Ext.alloc w5 (.cells #[.slice A5 C.room.length c5, .slice B5 C.units.length d5] 26); have hbx5 := heap_alloc_new w5 (.cells #[.slice A5 C.room.length c5, .slice B5 C.units.length d5] 26); have HO5 := hid (hO5.read.ext hx5); have HF5 := hid (hq.trans (hE5.trans hx5)); have K5 := hid (show ∀ w', Ext (w5.alloc (.cells #[.slice A5 C.room.length c5, .slice B5 C.units.length d5] 26)) w' → w'.cell? ⟨w5.heap.size, 0, none⟩ = some (.slice A5 C.room.length c5) ∧ w'.cell? ⟨w5.heap.size, 1, none⟩ = some (.slice B5 C.units.length d5) from fun w' hw => ⟨obj_cell (hw.obj hbx5) (i := 0) rfl, obj_cell (hw.obj hbx5) (i := 1) rfl⟩); clear hO5 hE5 hkk hx5 hbx5 hq)
        | (go_at_call 40; refine (lSameCluster _ _ R.1 _ HO23.out HO3.out).mono ?_; rintro e w4 ⟨rfl, hE4⟩; have HF4 := hid hE4; obtain ⟨hb0, hb1⟩ := KB.out _ (HE3.out.trans HF4.out); obtain ⟨p20, p21⟩ := K2.out _ (HQ3.out.trans HF4.out); obtain ⟨p30, p31⟩ := K3.out _ HF4.out; clear hE4)
        | (go_at_call 38; refine (iClusterOpen _ C _ _ _ HCW.out HS.out.len HS.out.flat HS.out.ids).mono ?_; rw [← HRR.out]; rintro e w2 ⟨v2, rfl, hO2, hE2⟩; obtain ⟨A2, c2, B2, d2, rfl⟩ := hO2.form; obtain ⟨y0, y1, y0f, y1f, k1, k1f, hkk, _⟩ := box2 (heap_alloc_new w2 (.cells #[.slice none 0 0, .slice none 0 0] 26)) (.slice A2 R.1.room.length c2) (.slice B2 R.1.units.length d2); have hx2 := Ext.alloc w2 (.cells #[.slice A2 R.1.room.length c2, .slice B2 R.1.units.length d2] 26); have hbx2 := heap_alloc_new w2 (.cells #[.slice A2 R.1.room.length c2, .slice B2 R.1.units.length d2] 26); have HO2 := hid (hO2.read.ext hx2); have HE2 := hid ((hE2.trans hx2)); have K2 := hid (show ∀ w', Ext (w2.alloc (.cells #[.slice A2 R.1.room.length c2, .slice B2 R.1.units.length d2] 26)) w' → w'.cell? ⟨w2.heap.size, 0, none⟩ = some (.slice A2 R.1.room.length c2) ∧ w'.cell? ⟨w2.heap.size, 1, none⟩ = some (.slice B2 R.1.units.length d2) from fun w' hw => ⟨obj_cell (hw.obj hbx2) (i := 0) rfl, obj_cell (hw.obj hbx2) (i := 1) rfl⟩); obtain ⟨hb0, hb1⟩ := KB.out _ HE2.out; clear hO2 hE2 hkk hx2 hbx2)
        | (go_at_call 39; refine (sClusterOpen _ C _ _ _ (HCW.out.ext HE2.out) HS.out.len HS.out.flat).mono ?_; rw [← HRR.out]; rintro e w3 ⟨v3, rfl, hO3, hE3⟩; obtain ⟨A3, c3, B3, d3, rfl⟩ := hO3.form; obtain ⟨y0, y1, y0f, y1f, k1, k1f, hkk, _⟩ := box2 (heap_alloc_new w3 (.cells #[.slice none 0 0, .slice none 0 0] 26)) (.slice A3 R.1.room.length c3) (.slice B3 R.1.units.length d3); have hx3 := Ext.alloc w3 (.cells #[.slice A3 R.1.room.length c3, .slice B3 R.1.units.length d3] 26); have hbx3 := heap_alloc_new w3 (.cells #[.slice A3 R.1.room.length c3, .slice B3 R.1.units.length d3] 26); have HO3 := hid (hO3.read.ext hx3); have HE3 := hid (HE2.out.trans (hE3.trans hx3)); have K3 := hid (show ∀ w', Ext (w3.alloc (.cells #[.slice A3 R.1.room.length c3, .slice B3 R.1.units.length d3] 26)) w' → w'.cell? ⟨w3.heap.size, 0, none⟩ = some (.slice A3 R.1.room.length c3) ∧ w'.cell? ⟨w3.heap.size, 1, none⟩ = some (.slice B3 R.1.units.length d3) from fun w' hw => ⟨obj_cell (hw.obj hbx3) (i := 0) rfl, obj_cell (hw.obj hbx3) (i := 1) rfl⟩); have hq3 := hE3.trans hx3; have HO23 := hid (HO2.out.ext hq3); have HQ3 := hid hq3; obtain ⟨hb0, hb1⟩ := KB.out _ HE3.out; obtain ⟨p20, p21⟩ := K2.out _ hq3; obtain ⟨p30, p31⟩ := K3.out _ (Ext.refl _); clear hO3 hE3 hkk hx3 hbx3 hq3))
      have HGO := hid (RU.get (show RU _ (.slice B2 R.1.units.length d2) R.1.units from by obtain ⟨_, _, he, _, h2⟩ := HO23.out; injection he with he; injection he with he; injection he with _ he; injection he with he _; rw [he]; exact h2))
      have HGC := hid (RU.get (show RU W (.slice Au C.units.length cu) C.units from by obtain ⟨_, _, he, _, h2⟩ := HCW.out; injection he with he; injection he with he; injection he with _ he; injection he with he _; rw [he]; exact h2))
      go_loopw [12] (fun i wr => ∃ j : Nat, j ≤ C.units.length ∧ i = .int .i64 j ∧ Hid (Ext (w5.alloc (.cells #[.slice A5 C.room.length c5, .slice B5 C.units.length d5] 26)) wr)) (fun i _ => C.units.length - (intOf i).toNat)
      case atStart => exact ⟨0, Nat.zero_le _, rfl, hid (Ext.refl _)⟩
      case round =>
        obtain ⟨j, hj, rfl, hE⟩ := hrel
        have hq := HF5.out.trans hE.out
        have hu10 := HS.out.units
        obtain ⟨qb0, qb1⟩ := KB.out _ (HE3.out.trans hq)
        obtain ⟨p20, p21⟩ := K2.out _ (HQ3.out.trans hq)
        obtain ⟨p50, p51⟩ := K5.out _ hE.out
        by_cases hjl : j < C.units.length
        · have ij : (j : Int) < (C.units.length : Int) := by omega
          have ij2 : (j : Int) < (R.1.units.length : Int) := by have := HL2.out; omega
          have i0 : (0 : Int) ≤ (j : Int) := by omega
          by_cases hjk : j = k
          · have hne : ((j : Int) != (k : Int)) = false := by rw [hjk]; simp
            clear hjk
            go_wp2
            go_quiet (fail)
            go_wp2
            go_roundw
            case rel => exact ⟨j + 1, by omega, by go_num, hid (hE.out.trans (Ext.drewN _ _))⟩
            case measure => simp [intOf]; omega
          · have hne : ((j : Int) != (k : Int)) = true := by simp; omega
            obtain ⟨Ac, cc, hvc, _, _, hgc⟩ := HGC.out
            injection hvc with e1 _ e3
            subst e1 e3
            obtain ⟨bc, oc, x, An, cn, rfl, ex, c1, c2, hnx⟩ := hgc j hjl
            obtain ⟨Ao, co, hvo, _, _, hgo⟩ := HGO.out
            injection hvo with e1 _ e3
            subst e1 e3
            obtain ⟨bo, oo, x2, Am, cm, rfl, ex2, d1, d2', hmx⟩ := hgo j (by have := HL2.out; omega)
            have hxx : x2 = x := by
              have a := HJ.out j x hjk ex.out
              rw [ex2.out] at a
              injection a
            subst hxx
            have hqc := HE3.out.trans hq
            have KH : Hid (∀ w', Ext wr w' → w'.cell? ⟨w1.heap.size, 1, none⟩ = some (.slice (some ⟨bc, oc, none⟩) C.units.length cu) ∧ w'.cell? ⟨w2.heap.size, 1, none⟩ = some (.slice (some ⟨bo, oo, none⟩) R.1.units.length d2) ∧ w'.cell? ⟨bc, oc + j * 2, none⟩ = some (.bool x2.opened) ∧ w'.cell? ⟨bc, oc + j * 2 + 1, none⟩ = some (.slice An x2.tasks.length cn) ∧ w'.cell? ⟨bo, oo + j * 2, none⟩ = some (.bool x2.opened) ∧ w'.cell? ⟨bo, oo + j * 2 + 1, none⟩ = some (.slice Am x2.tasks.length cm) ∧ Ext wr w') :=
              hid fun w' hw => ⟨hw.cell qb1, hw.cell p21, hw.cell (hqc.cell c1), hw.cell (hqc.cell c2), hw.cell (hq.cell d1), hw.cell (hq.cell d2'), hw⟩
            have H1 := hid (RT.ext hnx hqc)
            have H2 := hid (RT.ext hmx hq)
            clear c1 c2 d1 d2' hnx hmx hgc hgo hqc hjk
            go_wp2
            go_region_held3 (fun w' => w'.cell? ⟨w1.heap.size, 1, none⟩ = some (.slice (some ⟨bc, oc, none⟩) C.units.length cu) ∧ w'.cell? ⟨w2.heap.size, 1, none⟩ = some (.slice (some ⟨bo, oo, none⟩) R.1.units.length d2) ∧ w'.cell? ⟨bc, oc + j * 2, none⟩ = some (.bool x2.opened) ∧ w'.cell? ⟨bc, oc + j * 2 + 1, none⟩ = some (.slice An x2.tasks.length cn) ∧ w'.cell? ⟨bo, oo + j * 2, none⟩ = some (.bool x2.opened) ∧ w'.cell? ⟨bo, oo + j * 2 + 1, none⟩ = some (.slice Am x2.tasks.length cm) ∧ Ext wr w')
              (first | exact KH.out _ (by assumption) | exact KH.out _ (Below.drew (Below.refl _ _)))
              ((go_at_call 41; refine (lSameTasks _ _ x2.tasks _ (RT.ext H2.out (Below.drew (Below.refl _ _))) (RT.ext H1.out (Below.drew (Below.refl _ _)))).mono ?_; rintro e w9 ⟨rfl, hE9⟩; have h09 : Ext wr w9 := Ext.trans (Below.drew (Below.refl _ _)) hE9))
            go_wp2
            go_roundw
            case rel => exact ⟨j + 1, by omega, by go_num, hid (hE.out.trans h09)⟩
            case measure => simp [intOf]; omega
        · have ij : ¬ (j : Int) < (C.units.length : Int) := by omega
          obtain ⟨Ao, co, hvo, _, _, hgo⟩ := HGO.out
          injection hvo with e1 _ e3
          subst e1 e3
          obtain ⟨bo, oo, x2, Am, cm, rfl, ex2, d1, _, _⟩ := hgo k (by have := HL2.out; omega)
          have hxx : x2.opened = op := by
            have a := HYK.out
            rw [ex2.out] at a
            injection a with a
            rw [a]
          have d1q := hq.cell d1
          rw [hxx] at d1q
          clear d1 hgo hxx
          go_wp2_with (go_at_call 40; refine (lSameCluster _ _ C _ (HO5.out.ext hE.out) (HCW.out.ext (HE3.out.trans (HF5.out.trans hE.out)))).mono ?_; rintro e w8 ⟨rfl, hE8⟩; have HF8 := hid (hE.out.trans hE8); clear hE8)
          go_ret
          exact ⟨rfl, HEW.out.trans (HE3.out.trans (HF5.out.trans HF8.out))⟩
    · have h0' : (R.2 != 0) = true := by simpa using h0
      clear h0
      go_wp2_with (first
        | (go_at_call 40; have hq := HF4.out; refine (lSameCluster _ _ R.1 _ (HO23.out.ext hq) (HO3.out.ext hq)).mono ?_; rintro e w5 ⟨rfl, hE5⟩; have HF5 := hid (hq.trans hE5); clear hE5 hq)
        | (go_at_call 40; refine (lSameCluster _ _ R.1 _ HO23.out HO3.out).mono ?_; rintro e w4 ⟨rfl, hE4⟩; have HF4 := hid hE4; obtain ⟨hb0, hb1⟩ := KB.out _ (HE3.out.trans HF4.out); obtain ⟨p20, p21⟩ := K2.out _ (HQ3.out.trans HF4.out); obtain ⟨p30, p31⟩ := K3.out _ HF4.out; clear hE4)
        | (go_at_call 38; refine (iClusterOpen _ C _ _ _ HCW.out HS.out.len HS.out.flat HS.out.ids).mono ?_; rw [← HRR.out]; rintro e w2 ⟨v2, rfl, hO2, hE2⟩; obtain ⟨A2, c2, B2, d2, rfl⟩ := hO2.form; obtain ⟨y0, y1, y0f, y1f, k1, k1f, hkk, _⟩ := box2 (heap_alloc_new w2 (.cells #[.slice none 0 0, .slice none 0 0] 26)) (.slice A2 R.1.room.length c2) (.slice B2 R.1.units.length d2); have hx2 := Ext.alloc w2 (.cells #[.slice A2 R.1.room.length c2, .slice B2 R.1.units.length d2] 26); have hbx2 := heap_alloc_new w2 (.cells #[.slice A2 R.1.room.length c2, .slice B2 R.1.units.length d2] 26); have HO2 := hid (hO2.read.ext hx2); have HE2 := hid ((hE2.trans hx2)); have K2 := hid (show ∀ w', Ext (w2.alloc (.cells #[.slice A2 R.1.room.length c2, .slice B2 R.1.units.length d2] 26)) w' → w'.cell? ⟨w2.heap.size, 0, none⟩ = some (.slice A2 R.1.room.length c2) ∧ w'.cell? ⟨w2.heap.size, 1, none⟩ = some (.slice B2 R.1.units.length d2) from fun w' hw => ⟨obj_cell (hw.obj hbx2) (i := 0) rfl, obj_cell (hw.obj hbx2) (i := 1) rfl⟩); obtain ⟨hb0, hb1⟩ := KB.out _ HE2.out; clear hO2 hE2 hkk hx2 hbx2)
        | (go_at_call 39; refine (sClusterOpen _ C _ _ _ (HCW.out.ext HE2.out) HS.out.len HS.out.flat).mono ?_; rw [← HRR.out]; rintro e w3 ⟨v3, rfl, hO3, hE3⟩; obtain ⟨A3, c3, B3, d3, rfl⟩ := hO3.form; obtain ⟨y0, y1, y0f, y1f, k1, k1f, hkk, _⟩ := box2 (heap_alloc_new w3 (.cells #[.slice none 0 0, .slice none 0 0] 26)) (.slice A3 R.1.room.length c3) (.slice B3 R.1.units.length d3); have hx3 := Ext.alloc w3 (.cells #[.slice A3 R.1.room.length c3, .slice B3 R.1.units.length d3] 26); have hbx3 := heap_alloc_new w3 (.cells #[.slice A3 R.1.room.length c3, .slice B3 R.1.units.length d3] 26); have HO3 := hid (hO3.read.ext hx3); have HE3 := hid (HE2.out.trans (hE3.trans hx3)); have K3 := hid (show ∀ w', Ext (w3.alloc (.cells #[.slice A3 R.1.room.length c3, .slice B3 R.1.units.length d3] 26)) w' → w'.cell? ⟨w3.heap.size, 0, none⟩ = some (.slice A3 R.1.room.length c3) ∧ w'.cell? ⟨w3.heap.size, 1, none⟩ = some (.slice B3 R.1.units.length d3) from fun w' hw => ⟨obj_cell (hw.obj hbx3) (i := 0) rfl, obj_cell (hw.obj hbx3) (i := 1) rfl⟩); have hq3 := hE3.trans hx3; have HO23 := hid (HO2.out.ext hq3); have HQ3 := hid hq3; obtain ⟨hb0, hb1⟩ := KB.out _ HE3.out; obtain ⟨p20, p21⟩ := K2.out _ hq3; obtain ⟨p30, p31⟩ := K3.out _ (Ext.refl _); clear hO3 hE3 hkk hx3 hbx3 hq3))
      go_ret
      exact ⟨rfl, HEW.out.trans (HE3.out.trans HF5.out)⟩
  · have i1 : (1048576 : Int) < (bs.length : Int) := by omega
    go_enter Try.func7, Try.ntmps7
    go_wp2
    go_ret
    exact ⟨rfl, Ext.refl _⟩

end Go.Proofs.Ytfgibhdglbjadaa
