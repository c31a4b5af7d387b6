/- The law FnOpenCode. -/
import Derived.Test.YtfgibhdglbjadaaK9
import Derived.Test.YtfgibhdglbjadaaK11
import Derived.Test.YtfgibhdglbjadaaK12
import Derived.Test.YtfgibhdglbjadaaK8
namespace Go.Proofs.Ytfgibhdglbjadaa
open Go.RowKit
set_option maxRecDepth 4000

theorem openC_none {C : ClusD} (h : clusOk C = true) {node : Int} (hn : ¬ (0 ≤ node ∧ node < (C.units.length : Int))) (op : Bool) : openC C node op = (C, 4) := by
  have h2 : inB node 0 ((C.units.length : Int) - 1) = false := by
    rw [← Bool.not_eq_true, inB, Bool.and_eq_true, decide_eq_true_eq, decide_eq_true_eq]
    omega
  unfold openC
  rw [if_pos h, h2]
  rfl
theorem openC_at {C : ClusD} (h : clusOk C = true) {k : Nat} {x : UnitD} (hk : C.units[k]? = some x) (op : Bool) : openC C k op = if x.opened == op then (C, 2) else if 0 < x.tasks.length then (C, 5) else (⟨C.room, C.units.set k ⟨op, x.tasks⟩⟩, 0) := by
  have hlt := (List.getElem?_eq_some_iff.1 hk).1
  refine open_at h ?_ hk
  rw [inB, Bool.and_eq_true, decide_eq_true_eq, decide_eq_true_eq]
  omega
set_option maxHeartbeats 8000000 in
theorem lawOpenCode (v : Value) (bs : List Int) (w : World) (h : XBy w v bs) :
    Calls Try.prog 8 #[v] w (RetB w true) := by
  have HB := hid h
  obtain ⟨A, c, rfl, _⟩ := h
  by_cases h1 : bs.length ≤ 1048576
  · have i1 : ¬ (1048576 : Int) < (bs.length : Int) := by omega
    go_enter Try.func8, Try.ntmps8
    go_wp2_with (go_at_call 37; refine (dDrawOpen _ bs _ HB.out (by omega)).mono ?_; rintro e w1 ⟨cv, C, node, op, rfl, hO, hS, hnd, hE⟩; obtain ⟨Ar, cr, Au, cu, rfl⟩ := hO.form; have HC := hid hO.read; have HS := hid hS; have HE := hid hE; obtain ⟨y0, y1, y0f, y1f, k1, k1f, hkk, _⟩ := box2 (heap_alloc_new w1 (.cells #[.slice none 0 0, .slice none 0 0] 26)) (.slice Ar C.room.length cr) (.slice Au C.units.length cu); clear hkk hO hS hE)
    obtain ⟨W, hW⟩ : ∃ W, W = w1.alloc (.cells #[.slice Ar C.room.length cr, .slice Au C.units.length cu] 26) := ⟨_, rfl⟩
    have hEW : Ext w1 W := by rw [hW]; exact Ext.alloc _ _
    have hbx : W.heap[w1.heap.size]? = some (.cells #[.slice Ar C.room.length cr, .slice Au C.units.length cu] 26 (0, 0)) := by rw [hW]; exact heap_alloc_new _ _
    have KB : Hid (∀ w', Ext W w' → w'.cell? ⟨w1.heap.size, 0, none⟩ = some (.slice Ar C.room.length cr) ∧ w'.cell? ⟨w1.heap.size, 1, none⟩ = some (.slice Au C.units.length cu)) := hid fun w' hw => ⟨obj_cell (hw.obj hbx) (i := 0) rfl, obj_cell (hw.obj hbx) (i := 1) rfl⟩
    have hb0 := obj_cell hbx (i := 0) rfl
    have hb1 := obj_cell hbx (i := 1) rfl
    have HEW := hid (HE.out.trans hEW)
    have HCW := hid (HC.out.ext hEW)
    rw [← hW]
    clear hW y0 y1 y0f y1f k1 k1f hEW hbx
    obtain ⟨R, hR⟩ : ∃ R, R = openC C node op := ⟨_, rfl⟩
    have HRR := hid hR
    clear hR
    by_cases hv : clusOk C = true
    · by_cases hth : 0 ≤ node ∧ node < (C.units.length : Int)
      · obtain ⟨hn0, hnl⟩ := hth
        obtain ⟨k, rfl⟩ : ∃ k : Nat, node = k := ⟨node.toNat, by omega⟩
        have hkl : k < C.units.length := by omega
        have HCG := hid (RU.get (show RU W (.slice Au C.units.length cu) C.units by obtain ⟨_, _, he, _, h2⟩ := HCW.out; injection he with he; injection he with he; injection he with _ he; injection he with he _; rw [he]; exact h2))
        obtain ⟨A0, c0, hv0, _, _, hg0⟩ := HCG.out
        injection hv0 with e1 _ e3
        subst e1 e3
        obtain ⟨ub, uo, u, An, cn, rfl, eu, cu0, cu1, _⟩ := hg0 k hkl
        clear hg0 HCG
        have HU0 := hid cu0
        have HU1 := hid cu1
        have HR1 := hid (HRR.out.trans (openC_at hv eu.out op))
        have hcl := (clus_iff C).1 hv |>.1 u (List.mem_of_getElem? eu.out)
        have HCL := hid hcl
        clear cu0 cu1 hcl
        have hR2 : R.2 = if u.opened == op then 2 else if 0 < u.tasks.length then 5 else 0 := by
          rw [HR1.out]
          split
          · rfl
          · split <;> rfl
        by_cases hca : u.opened = true ∧ op = true ∧ 0 < u.tasks.length
        · obtain ⟨hou, rfl, h4⟩ := hca
          have i4 : (0 : Int) < (u.tasks.length : Int) := by omega
          have i5 : decide ((0 : Int) < (u.tasks.length : Int)) = true := by simpa using h4
          simp [hou, h4] at hR2
          clear HCL h4
          go_wp2_with (first
            | (go_at_call 40; have hq := HF6.out; refine (lSameCluster _ _ R.1 _ (HO23.out.ext hq) (HO3.out.ext hq)).mono ?_; rintro e w7 ⟨rfl, hE7⟩; have HF7 := hid (hq.trans hE7); clear hE7 hq)
            | (go_at_call 42; refine (sClusterValid _ C _ (HCW.out.ext (HE3.out.trans HF4.out)) HS.out.len HS.out.flat).mono ?_; rintro e w6 ⟨rfl, hE6⟩; rw [hv]; have HF6 := hid (HF4.out.trans hE6); obtain ⟨hb0, hb1⟩ := KB.out _ (HE3.out.trans HF6.out); obtain ⟨p20, p21⟩ := K2.out _ (HQ3.out.trans HF6.out); obtain ⟨p30, p31⟩ := K3.out _ HF6.out; have cu0 := (HE3.out.trans HF6.out).cell HU0.out; have cu1 := (HE3.out.trans HF6.out).cell HU1.out; obtain ⟨z0, z1, z0f, z1f, l1, l1f, hll, _⟩ := box2 (heap_alloc_new w6 (.cells #[.bool false, .slice none 0 0] 56)) (.bool u.opened) (.slice An u.tasks.length cn); have q0 := obj_cell (heap_alloc_new w6 (.cells #[.bool u.opened, .slice An u.tasks.length cn] 56)) (i := 0) rfl; have q1 := obj_cell (heap_alloc_new w6 (.cells #[.bool u.opened, .slice An u.tasks.length cn] 56)) (i := 1) rfl; clear hll hE6)
            | (go_at_call 40; refine (lSameCluster _ _ R.1 _ HO23.out HO3.out).mono ?_; rintro e w4 ⟨rfl, hE4⟩; have HF4 := hid hE4; obtain ⟨hb0, hb1⟩ := KB.out _ (HE3.out.trans HF4.out); obtain ⟨p20, p21⟩ := K2.out _ (HQ3.out.trans HF4.out); obtain ⟨p30, p31⟩ := K3.out _ HF4.out; clear hE4)
            | (go_at_call 38; refine (iClusterOpen _ C _ _ _ HCW.out HS.out.len HS.out.flat HS.out.ids).mono ?_; rw [← HRR.out]; rintro e w2 ⟨v2, rfl, hO2, hE2⟩; obtain ⟨A2, c2, B2, d2, rfl⟩ := hO2.form; obtain ⟨y0, y1, y0f, y1f, k1, k1f, hkk, _⟩ := box2 (heap_alloc_new w2 (.cells #[.slice none 0 0, .slice none 0 0] 26)) (.slice A2 R.1.room.length c2) (.slice B2 R.1.units.length d2); have hx2 := Ext.alloc w2 (.cells #[.slice A2 R.1.room.length c2, .slice B2 R.1.units.length d2] 26); have hbx2 := heap_alloc_new w2 (.cells #[.slice A2 R.1.room.length c2, .slice B2 R.1.units.length d2] 26); have HO2 := hid (hO2.read.ext hx2); have HE2 := hid ((hE2.trans hx2)); have K2 := hid (show ∀ w', Ext (w2.alloc (.cells #[.slice A2 R.1.room.length c2, .slice B2 R.1.units.length d2] 26)) w' → w'.cell? ⟨w2.heap.size, 0, none⟩ = some (.slice A2 R.1.room.length c2) ∧ w'.cell? ⟨w2.heap.size, 1, none⟩ = some (.slice B2 R.1.units.length d2) from fun w' hw => ⟨obj_cell (hw.obj hbx2) (i := 0) rfl, obj_cell (hw.obj hbx2) (i := 1) rfl⟩); obtain ⟨hb0, hb1⟩ := KB.out _ HE2.out; clear hO2 hE2 hkk hx2 hbx2)
            | (go_at_call 39; refine (sClusterOpen _ C _ _ _ (HCW.out.ext HE2.out) HS.out.len HS.out.flat).mono ?_; rw [← HRR.out]; rintro e w3 ⟨v3, rfl, hO3, hE3⟩; obtain ⟨A3, c3, B3, d3, rfl⟩ := hO3.form; obtain ⟨y0, y1, y0f, y1f, k1, k1f, hkk, _⟩ := box2 (heap_alloc_new w3 (.cells #[.slice none 0 0, .slice none 0 0] 26)) (.slice A3 R.1.room.length c3) (.slice B3 R.1.units.length d3); have hx3 := Ext.alloc w3 (.cells #[.slice A3 R.1.room.length c3, .slice B3 R.1.units.length d3] 26); have hbx3 := heap_alloc_new w3 (.cells #[.slice A3 R.1.room.length c3, .slice B3 R.1.units.length d3] 26); have HO3 := hid (hO3.read.ext hx3); have HE3 := hid (HE2.out.trans (hE3.trans hx3)); have K3 := hid (show ∀ w', Ext (w3.alloc (.cells #[.slice A3 R.1.room.length c3, .slice B3 R.1.units.length d3] 26)) w' → w'.cell? ⟨w3.heap.size, 0, none⟩ = some (.slice A3 R.1.room.length c3) ∧ w'.cell? ⟨w3.heap.size, 1, none⟩ = some (.slice B3 R.1.units.length d3) from fun w' hw => ⟨obj_cell (hw.obj hbx3) (i := 0) rfl, obj_cell (hw.obj hbx3) (i := 1) rfl⟩); have hq3 := hE3.trans hx3; have HO23 := hid (HO2.out.ext hq3); have HQ3 := hid hq3; obtain ⟨hb0, hb1⟩ := KB.out _ HE3.out; obtain ⟨p20, p21⟩ := K2.out _ hq3; obtain ⟨p30, p31⟩ := K3.out _ (Ext.refl _); clear hO3 hE3 hkk hx3 hbx3 hq3))
          go_ret
          exact ⟨rfl, HEW.out.trans (HE3.out.trans (HF6.out.trans (Ext.alloc _ _)))⟩
        by_cases hcb : u.opened = true ∧ op = true ∧ ¬ 0 < u.tasks.length
        · obtain ⟨hou, rfl, h4⟩ := hcb
          have i4 : ¬ (0 : Int) < (u.tasks.length : Int) := by omega
          have i5 : decide ((0 : Int) < (u.tasks.length : Int)) = false := by simpa using h4
          simp [hou, h4] at hR2
          clear HCL h4
          go_wp2_with (first
            | (go_at_call 40; have hq := HF6.out; refine (lSameCluster _ _ R.1 _ (HO23.out.ext hq) (HO3.out.ext hq)).mono ?_; rintro e w7 ⟨rfl, hE7⟩; have HF7 := hid (hq.trans hE7); clear hE7 hq)
            | (go_at_call 42; refine (sClusterValid _ C _ (HCW.out.ext (HE3.out.trans HF4.out)) HS.out.len HS.out.flat).mono ?_; rintro e w6 ⟨rfl, hE6⟩; rw [hv]; have HF6 := hid (HF4.out.trans hE6); obtain ⟨hb0, hb1⟩ := KB.out _ (HE3.out.trans HF6.out); obtain ⟨p20, p21⟩ := K2.out _ (HQ3.out.trans HF6.out); obtain ⟨p30, p31⟩ := K3.out _ HF6.out; have cu0 := (HE3.out.trans HF6.out).cell HU0.out; have cu1 := (HE3.out.trans HF6.out).cell HU1.out; obtain ⟨z0, z1, z0f, z1f, l1, l1f, hll, _⟩ := box2 (heap_alloc_new w6 (.cells #[.bool false, .slice none 0 0] 56)) (.bool u.opened) (.slice An u.tasks.length cn); have q0 := obj_cell (heap_alloc_new w6 (.cells #[.bool u.opened, .slice An u.tasks.length cn] 56)) (i := 0) rfl; have q1 := obj_cell (heap_alloc_new w6 (.cells #[.bool u.opened, .slice An u.tasks.length cn] 56)) (i := 1) rfl; clear hll hE6)
            | (go_at_call 40; refine (lSameCluster _ _ R.1 _ HO23.out HO3.out).mono ?_; rintro e w4 ⟨rfl, hE4⟩; have HF4 := hid hE4; obtain ⟨hb0, hb1⟩ := KB.out _ (HE3.out.trans HF4.out); obtain ⟨p20, p21⟩ := K2.out _ (HQ3.out.trans HF4.out); obtain ⟨p30, p31⟩ := K3.out _ HF4.out; clear hE4)
            | (go_at_call 38; refine (iClusterOpen _ C _ _ _ HCW.out HS.out.len HS.out.flat HS.out.ids).mono ?_; rw [← HRR.out]; rintro e w2 ⟨v2, rfl, hO2, hE2⟩; obtain ⟨A2, c2, B2, d2, rfl⟩ := hO2.form; obtain ⟨y0, y1, y0f, y1f, k1, k1f, hkk, _⟩ := box2 (heap_alloc_new w2 (.cells #[.slice none 0 0, .slice none 0 0] 26)) (.slice A2 R.1.room.length c2) (.slice B2 R.1.units.length d2); have hx2 := Ext.alloc w2 (.cells #[.slice A2 R.1.room.length c2, .slice B2 R.1.units.length d2] 26); have hbx2 := heap_alloc_new w2 (.cells #[.slice A2 R.1.room.length c2, .slice B2 R.1.units.length d2] 26); have HO2 := hid (hO2.read.ext hx2); have HE2 := hid ((hE2.trans hx2)); have K2 := hid (show ∀ w', Ext (w2.alloc (.cells #[.slice A2 R.1.room.length c2, .slice B2 R.1.units.length d2] 26)) w' → w'.cell? ⟨w2.heap.size, 0, none⟩ = some (.slice A2 R.1.room.length c2) ∧ w'.cell? ⟨w2.heap.size, 1, none⟩ = some (.slice B2 R.1.units.length d2) from fun w' hw => ⟨obj_cell (hw.obj hbx2) (i := 0) rfl, obj_cell (hw.obj hbx2) (i := 1) rfl⟩); obtain ⟨hb0, hb1⟩ := KB.out _ HE2.out; clear hO2 hE2 hkk hx2 hbx2)
            | (go_at_call 39; refine (sClusterOpen _ C _ _ _ (HCW.out.ext HE2.out) HS.out.len HS.out.flat).mono ?_; rw [← HRR.out]; rintro e w3 ⟨v3, rfl, hO3, hE3⟩; obtain ⟨A3, c3, B3, d3, rfl⟩ := hO3.form; obtain ⟨y0, y1, y0f, y1f, k1, k1f, hkk, _⟩ := box2 (heap_alloc_new w3 (.cells #[.slice none 0 0, .slice none 0 0] 26)) (.slice A3 R.1.room.length c3) (.slice B3 R.1.units.length d3); have hx3 := Ext.alloc w3 (.cells #[.slice A3 R.1.room.length c3, .slice B3 R.1.units.length d3] 26); have hbx3 := heap_alloc_new w3 (.cells #[.slice A3 R.1.room.length c3, .slice B3 R.1.units.length d3] 26); have HO3 := hid (hO3.read.ext hx3); have HE3 := hid (HE2.out.trans (hE3.trans hx3)); have K3 := hid (show ∀ w', Ext (w3.alloc (.cells #[.slice A3 R.1.room.length c3, .slice B3 R.1.units.length d3] 26)) w' → w'.cell? ⟨w3.heap.size, 0, none⟩ = some (.slice A3 R.1.room.length c3) ∧ w'.cell? ⟨w3.heap.size, 1, none⟩ = some (.slice B3 R.1.units.length d3) from fun w' hw => ⟨obj_cell (hw.obj hbx3) (i := 0) rfl, obj_cell (hw.obj hbx3) (i := 1) rfl⟩); have hq3 := hE3.trans hx3; have HO23 := hid (HO2.out.ext hq3); have HQ3 := hid hq3; obtain ⟨hb0, hb1⟩ := KB.out _ HE3.out; obtain ⟨p20, p21⟩ := K2.out _ hq3; obtain ⟨p30, p31⟩ := K3.out _ (Ext.refl _); clear hO3 hE3 hkk hx3 hbx3 hq3))
          go_ret
          exact ⟨rfl, HEW.out.trans (HE3.out.trans (HF6.out.trans (Ext.alloc _ _)))⟩
        by_cases hcc : u.opened = true ∧ op = false ∧ 0 < u.tasks.length
        · obtain ⟨hou, rfl, h4⟩ := hcc
          have i4 : (0 : Int) < (u.tasks.length : Int) := by omega
          have i5 : decide ((0 : Int) < (u.tasks.length : Int)) = true := by simpa using h4
          simp [hou, h4] at hR2
          clear HCL h4
          go_wp2_with (first
            | (go_at_call 40; have hq := HF6.out; refine (lSameCluster _ _ R.1 _ (HO23.out.ext hq) (HO3.out.ext hq)).mono ?_; rintro e w7 ⟨rfl, hE7⟩; have HF7 := hid (hq.trans hE7); clear hE7 hq)
            | (go_at_call 42; refine (sClusterValid _ C _ (HCW.out.ext (HE3.out.trans HF4.out)) HS.out.len HS.out.flat).mono ?_; rintro e w6 ⟨rfl, hE6⟩; rw [hv]; have HF6 := hid (HF4.out.trans hE6); obtain ⟨hb0, hb1⟩ := KB.out _ (HE3.out.trans HF6.out); obtain ⟨p20, p21⟩ := K2.out _ (HQ3.out.trans HF6.out); obtain ⟨p30, p31⟩ := K3.out _ HF6.out; have cu0 := (HE3.out.trans HF6.out).cell HU0.out; have cu1 := (HE3.out.trans HF6.out).cell HU1.out; obtain ⟨z0, z1, z0f, z1f, l1, l1f, hll, _⟩ := box2 (heap_alloc_new w6 (.cells #[.bool false, .slice none 0 0] 56)) (.bool u.opened) (.slice An u.tasks.length cn); have q0 := obj_cell (heap_alloc_new w6 (.cells #[.bool u.opened, .slice An u.tasks.length cn] 56)) (i := 0) rfl; have q1 := obj_cell (heap_alloc_new w6 (.cells #[.bool u.opened, .slice An u.tasks.length cn] 56)) (i := 1) rfl; clear hll hE6)
            | (go_at_call 40; refine (lSameCluster _ _ R.1 _ HO23.out HO3.out).mono ?_; rintro e w4 ⟨rfl, hE4⟩; have HF4 := hid hE4; obtain ⟨hb0, hb1⟩ := KB.out _ (HE3.out.trans HF4.out); obtain ⟨p20, p21⟩ := K2.out _ (HQ3.out.trans HF4.out); obtain ⟨p30, p31⟩ := K3.out _ HF4.out; clear hE4)
            | (go_at_call 38; refine (iClusterOpen _ C _ _ _ HCW.out HS.out.len HS.out.flat HS.out.ids).mono ?_; rw [← HRR.out]; rintro e w2 ⟨v2, rfl, hO2, hE2⟩; obtain ⟨A2, c2, B2, d2, rfl⟩ := hO2.form; obtain ⟨y0, y1, y0f, y1f, k1, k1f, hkk, _⟩ := box2 (heap_alloc_new w2 (.cells #[.slice none 0 0, .slice none 0 0] 26)) (.slice A2 R.1.room.length c2) (.slice B2 R.1.units.length d2); have hx2 := Ext.alloc w2 (.cells #[.slice A2 R.1.room.length c2, .slice B2 R.1.units.length d2] 26); have hbx2 := heap_alloc_new w2 (.cells #[.slice A2 R.1.room.length c2, .slice B2 R.1.units.length d2] 26); have HO2 := hid (hO2.read.ext hx2); have HE2 := hid ((hE2.trans hx2)); have K2 := hid (show ∀ w', Ext (w2.alloc (.cells #[.slice A2 R.1.room.length c2, .slice B2 R.1.units.length d2] 26)) w' → w'.cell? ⟨w2.heap.size, 0, none⟩ = some (.slice A2 R.1.room.length c2) ∧ w'.cell? ⟨w2.heap.size, 1, none⟩ = some (.slice B2 R.1.units.length d2) from fun w' hw => ⟨obj_cell (hw.obj hbx2) (i := 0) rfl, obj_cell (hw.obj hbx2) (i := 1) rfl⟩); obtain ⟨hb0, hb1⟩ := KB.out _ HE2.out; clear hO2 hE2 hkk hx2 hbx2)
            | (go_at_call 39; refine (sClusterOpen _ C _ _ _ (HCW.out.ext HE2.out) HS.out.len HS.out.flat).mono ?_; rw [← HRR.out]; rintro e w3 ⟨v3, rfl, hO3, hE3⟩; obtain ⟨A3, c3, B3, d3, rfl⟩ := hO3.form; obtain ⟨y0, y1, y0f, y1f, k1, k1f, hkk, _⟩ := box2 (heap_alloc_new w3 (.cells #[.slice none 0 0, .slice none 0 0] 26)) (.slice A3 R.1.room.length c3) (.slice B3 R.1.units.length d3); have hx3 := Ext.alloc w3 (.cells #[.slice A3 R.1.room.length c3, .slice B3 R.1.units.length d3] 26); have hbx3 := heap_alloc_new w3 (.cells #[.slice A3 R.1.room.length c3, .slice B3 R.1.units.length d3] 26); have HO3 := hid (hO3.read.ext hx3); have HE3 := hid (HE2.out.trans (hE3.trans hx3)); have K3 := hid (show ∀ w', Ext (w3.alloc (.cells #[.slice A3 R.1.room.length c3, .slice B3 R.1.units.length d3] 26)) w' → w'.cell? ⟨w3.heap.size, 0, none⟩ = some (.slice A3 R.1.room.length c3) ∧ w'.cell? ⟨w3.heap.size, 1, none⟩ = some (.slice B3 R.1.units.length d3) from fun w' hw => ⟨obj_cell (hw.obj hbx3) (i := 0) rfl, obj_cell (hw.obj hbx3) (i := 1) rfl⟩); have hq3 := hE3.trans hx3; have HO23 := hid (HO2.out.ext hq3); have HQ3 := hid hq3; obtain ⟨hb0, hb1⟩ := KB.out _ HE3.out; obtain ⟨p20, p21⟩ := K2.out _ hq3; obtain ⟨p30, p31⟩ := K3.out _ (Ext.refl _); clear hO3 hE3 hkk hx3 hbx3 hq3))
          go_ret
          exact ⟨rfl, HEW.out.trans (HE3.out.trans (HF6.out.trans (Ext.alloc _ _)))⟩
        by_cases hcd : u.opened = true ∧ op = false ∧ ¬ 0 < u.tasks.length
        · obtain ⟨hou, rfl, h4⟩ := hcd
          have i4 : ¬ (0 : Int) < (u.tasks.length : Int) := by omega
          have i5 : decide ((0 : Int) < (u.tasks.length : Int)) = false := by simpa using h4
          simp [hou, h4] at hR2
          clear HCL h4
          go_wp2_with (first
            | (go_at_call 40; have hq := HF6.out; refine (lSameCluster _ _ R.1 _ (HO23.out.ext hq) (HO3.out.ext hq)).mono ?_; rintro e w7 ⟨rfl, hE7⟩; have HF7 := hid (hq.trans hE7); clear hE7 hq)
            | (go_at_call 42; refine (sClusterValid _ C _ (HCW.out.ext (HE3.out.trans HF4.out)) HS.out.len HS.out.flat).mono ?_; rintro e w6 ⟨rfl, hE6⟩; rw [hv]; have HF6 := hid (HF4.out.trans hE6); obtain ⟨hb0, hb1⟩ := KB.out _ (HE3.out.trans HF6.out); obtain ⟨p20, p21⟩ := K2.out _ (HQ3.out.trans HF6.out); obtain ⟨p30, p31⟩ := K3.out _ HF6.out; have cu0 := (HE3.out.trans HF6.out).cell HU0.out; have cu1 := (HE3.out.trans HF6.out).cell HU1.out; obtain ⟨z0, z1, z0f, z1f, l1, l1f, hll, _⟩ := box2 (heap_alloc_new w6 (.cells #[.bool false, .slice none 0 0] 56)) (.bool u.opened) (.slice An u.tasks.length cn); have q0 := obj_cell (heap_alloc_new w6 (.cells #[.bool u.opened, .slice An u.tasks.length cn] 56)) (i := 0) rfl; have q1 := obj_cell (heap_alloc_new w6 (.cells #[.bool u.opened, .slice An u.tasks.length cn] 56)) (i := 1) rfl; clear hll hE6)
            | (go_at_call 40; refine (lSameCluster _ _ R.1 _ HO23.out HO3.out).mono ?_; rintro e w4 ⟨rfl, hE4⟩; have HF4 := hid hE4; obtain ⟨hb0, hb1⟩ := KB.out _ (HE3.out.trans HF4.out); obtain ⟨p20, p21⟩ := K2.out _ (HQ3.out.trans HF4.out); obtain ⟨p30, p31⟩ := K3.out _ HF4.out; clear hE4)
            | (go_at_call 38; refine (iClusterOpen _ C _ _ _ HCW.out HS.out.len HS.out.flat HS.out.ids).mono ?_; rw [← HRR.out]; rintro e w2 ⟨v2, rfl, hO2, hE2⟩; obtain ⟨A2, c2, B2, d2, rfl⟩ := hO2.form; obtain ⟨y0, y1, y0f, y1f, k1, k1f, hkk, _⟩ := box2 (heap_alloc_new w2 (.cells #[.slice none 0 0, .slice none 0 0] 26)) (.slice A2 R.1.room.length c2) (.slice B2 R.1.units.length d2); have hx2 := Ext.alloc w2 (.cells #[.slice A2 R.1.room.length c2, .slice B2 R.1.units.length d2] 26); have hbx2 := heap_alloc_new w2 (.cells #[.slice A2 R.1.room.length c2, .slice B2 R.1.units.length d2] 26); have HO2 := hid (hO2.read.ext hx2); have HE2 := hid ((hE2.trans hx2)); have K2 := hid (show ∀ w', Ext (w2.alloc (.cells #[.slice A2 R.1.room.length c2, .slice B2 R.1.units.length d2] 26)) w' → w'.cell? ⟨w2.heap.size, 0, none⟩ = some (.slice A2 R.1.room.length c2) ∧ w'.cell? ⟨w2.heap.size, 1, none⟩ = some (.slice B2 R.1.units.length d2) from fun w' hw => ⟨obj_cell (hw.obj hbx2) (i := 0) rfl, obj_cell (hw.obj hbx2) (i := 1) rfl⟩); obtain ⟨hb0, hb1⟩ := KB.out _ HE2.out; clear hO2 hE2 hkk hx2 hbx2)
            | (go_at_call 39; refine (sClusterOpen _ C _ _ _ (HCW.out.ext HE2.out) HS.out.len HS.out.flat).mono ?_; rw [← HRR.out]; rintro e w3 ⟨v3, rfl, hO3, hE3⟩; obtain ⟨A3, c3, B3, d3, rfl⟩ := hO3.form; obtain ⟨y0, y1, y0f, y1f, k1, k1f, hkk, _⟩ := box2 (heap_alloc_new w3 (.cells #[.slice none 0 0, .slice none 0 0] 26)) (.slice A3 R.1.room.length c3) (.slice B3 R.1.units.length d3); have hx3 := Ext.alloc w3 (.cells #[.slice A3 R.1.room.length c3, .slice B3 R.1.units.length d3] 26); have hbx3 := heap_alloc_new w3 (.cells #[.slice A3 R.1.room.length c3, .slice B3 R.1.units.length d3] 26); have HO3 := hid (hO3.read.ext hx3); have HE3 := hid (HE2.out.trans (hE3.trans hx3)); have K3 := hid (show ∀ w', Ext (w3.alloc (.cells #[.slice A3 R.1.room.length c3, .slice B3 R.1.units.length d3] 26)) w' → w'.cell? ⟨w3.heap.size, 0, none⟩ = some (.slice A3 R.1.room.length c3) ∧ w'.cell? ⟨w3.heap.size, 1, none⟩ = some (.slice B3 R.1.units.length d3) from fun w' hw => ⟨obj_cell (hw.obj hbx3) (i := 0) rfl, obj_cell (hw.obj hbx3) (i := 1) rfl⟩); have hq3 := hE3.trans hx3; have HO23 := hid (HO2.out.ext hq3); have HQ3 := hid hq3; obtain ⟨hb0, hb1⟩ := KB.out _ HE3.out; obtain ⟨p20, p21⟩ := K2.out _ hq3; obtain ⟨p30, p31⟩ := K3.out _ (Ext.refl _); clear hO3 hE3 hkk hx3 hbx3 hq3))
          go_ret
          exact ⟨rfl, HEW.out.trans (HE3.out.trans (HF6.out.trans (Ext.alloc _ _)))⟩
          all_goals (rename_i hx; exact absurd (List.eq_nil_of_length_eq_zero (by omega)) hx)
        by_cases hce : u.opened = false ∧ op = true ∧ ¬ 0 < u.tasks.length
        · obtain ⟨hou, rfl, h4⟩ := hce
          have i4 : ¬ (0 : Int) < (u.tasks.length : Int) := by omega
          have i5 : decide ((0 : Int) < (u.tasks.length : Int)) = false := by simpa using h4
          simp [hou, h4] at hR2
          clear HCL h4
          go_wp2_with (first
            | (go_at_call 40; have hq := HF6.out; refine (lSameCluster _ _ R.1 _ (HO23.out.ext hq) (HO3.out.ext hq)).mono ?_; rintro e w7 ⟨rfl, hE7⟩; have HF7 := hid (hq.trans hE7); clear hE7 hq)
            | (go_at_call 42; refine (sClusterValid _ C _ (HCW.out.ext (HE3.out.trans HF4.out)) HS.out.len HS.out.flat).mono ?_; rintro e w6 ⟨rfl, hE6⟩; rw [hv]; have HF6 := hid (HF4.out.trans hE6); obtain ⟨hb0, hb1⟩ := KB.out _ (HE3.out.trans HF6.out); obtain ⟨p20, p21⟩ := K2.out _ (HQ3.out.trans HF6.out); obtain ⟨p30, p31⟩ := K3.out _ HF6.out; have cu0 := (HE3.out.trans HF6.out).cell HU0.out; have cu1 := (HE3.out.trans HF6.out).cell HU1.out; obtain ⟨z0, z1, z0f, z1f, l1, l1f, hll, _⟩ := box2 (heap_alloc_new w6 (.cells #[.bool false, .slice none 0 0] 56)) (.bool u.opened) (.slice An u.tasks.length cn); have q0 := obj_cell (heap_alloc_new w6 (.cells #[.bool u.opened, .slice An u.tasks.length cn] 56)) (i := 0) rfl; have q1 := obj_cell (heap_alloc_new w6 (.cells #[.bool u.opened, .slice An u.tasks.length cn] 56)) (i := 1) rfl; clear hll hE6)
            | (go_at_call 40; refine (lSameCluster _ _ R.1 _ HO23.out HO3.out).mono ?_; rintro e w4 ⟨rfl, hE4⟩; have HF4 := hid hE4; obtain ⟨hb0, hb1⟩ := KB.out _ (HE3.out.trans HF4.out); obtain ⟨p20, p21⟩ := K2.out _ (HQ3.out.trans HF4.out); obtain ⟨p30, p31⟩ := K3.out _ HF4.out; clear hE4)
            | (go_at_call 38; refine (iClusterOpen _ C _ _ _ HCW.out HS.out.len HS.out.flat HS.out.ids).mono ?_; rw [← HRR.out]; rintro e w2 ⟨v2, rfl, hO2, hE2⟩; obtain ⟨A2, c2, B2, d2, rfl⟩ := hO2.form; obtain ⟨y0, y1, y0f, y1f, k1, k1f, hkk, _⟩ := box2 (heap_alloc_new w2 (.cells #[.slice none 0 0, .slice none 0 0] 26)) (.slice A2 R.1.room.length c2) (.slice B2 R.1.units.length d2); have hx2 := Ext.alloc w2 (.cells #[.slice A2 R.1.room.length c2, .slice B2 R.1.units.length d2] 26); have hbx2 := heap_alloc_new w2 (.cells #[.slice A2 R.1.room.length c2, .slice B2 R.1.units.length d2] 26); have HO2 := hid (hO2.read.ext hx2); have HE2 := hid ((hE2.trans hx2)); have K2 := hid (show ∀ w', Ext (w2.alloc (.cells #[.slice A2 R.1.room.length c2, .slice B2 R.1.units.length d2] 26)) w' → w'.cell? ⟨w2.heap.size, 0, none⟩ = some (.slice A2 R.1.room.length c2) ∧ w'.cell? ⟨w2.heap.size, 1, none⟩ = some (.slice B2 R.1.units.length d2) from fun w' hw => ⟨obj_cell (hw.obj hbx2) (i := 0) rfl, obj_cell (hw.obj hbx2) (i := 1) rfl⟩); obtain ⟨hb0, hb1⟩ := KB.out _ HE2.out; clear hO2 hE2 hkk hx2 hbx2)
            | (go_at_call 39; refine (sClusterOpen _ C _ _ _ (HCW.out.ext HE2.out) HS.out.len HS.out.flat).mono ?_; rw [← HRR.out]; rintro e w3 ⟨v3, rfl, hO3, hE3⟩; obtain ⟨A3, c3, B3, d3, rfl⟩ := hO3.form; obtain ⟨y0, y1, y0f, y1f, k1, k1f, hkk, _⟩ := box2 (heap_alloc_new w3 (.cells #[.slice none 0 0, .slice none 0 0] 26)) (.slice A3 R.1.room.length c3) (.slice B3 R.1.units.length d3); have hx3 := Ext.alloc w3 (.cells #[.slice A3 R.1.room.length c3, .slice B3 R.1.units.length d3] 26); have hbx3 := heap_alloc_new w3 (.cells #[.slice A3 R.1.room.length c3, .slice B3 R.1.units.length d3] 26); have HO3 := hid (hO3.read.ext hx3); have HE3 := hid (HE2.out.trans (hE3.trans hx3)); have K3 := hid (show ∀ w', Ext (w3.alloc (.cells #[.slice A3 R.1.room.length c3, .slice B3 R.1.units.length d3] 26)) w' → w'.cell? ⟨w3.heap.size, 0, none⟩ = some (.slice A3 R.1.room.length c3) ∧ w'.cell? ⟨w3.heap.size, 1, none⟩ = some (.slice B3 R.1.units.length d3) from fun w' hw => ⟨obj_cell (hw.obj hbx3) (i := 0) rfl, obj_cell (hw.obj hbx3) (i := 1) rfl⟩); have hq3 := hE3.trans hx3; have HO23 := hid (HO2.out.ext hq3); have HQ3 := hid hq3; obtain ⟨hb0, hb1⟩ := KB.out _ HE3.out; obtain ⟨p20, p21⟩ := K2.out _ hq3; obtain ⟨p30, p31⟩ := K3.out _ (Ext.refl _); clear hO3 hE3 hkk hx3 hbx3 hq3))
          go_ret
          exact ⟨rfl, HEW.out.trans (HE3.out.trans (HF6.out.trans (Ext.alloc _ _)))⟩
        by_cases hcf : u.opened = false ∧ op = false ∧ ¬ 0 < u.tasks.length
        · obtain ⟨hou, rfl, h4⟩ := hcf
          have i4 : ¬ (0 : Int) < (u.tasks.length : Int) := by omega
          have i5 : decide ((0 : Int) < (u.tasks.length : Int)) = false := by simpa using h4
          simp [hou, h4] at hR2
          clear HCL h4
          go_wp2_with (first
            | (go_at_call 40; have hq := HF6.out; refine (lSameCluster _ _ R.1 _ (HO23.out.ext hq) (HO3.out.ext hq)).mono ?_; rintro e w7 ⟨rfl, hE7⟩; have HF7 := hid (hq.trans hE7); clear hE7 hq)
            | (go_at_call 42; refine (sClusterValid _ C _ (HCW.out.ext (HE3.out.trans HF4.out)) HS.out.len HS.out.flat).mono ?_; rintro e w6 ⟨rfl, hE6⟩; rw [hv]; have HF6 := hid (HF4.out.trans hE6); obtain ⟨hb0, hb1⟩ := KB.out _ (HE3.out.trans HF6.out); obtain ⟨p20, p21⟩ := K2.out _ (HQ3.out.trans HF6.out); obtain ⟨p30, p31⟩ := K3.out _ HF6.out; have cu0 := (HE3.out.trans HF6.out).cell HU0.out; have cu1 := (HE3.out.trans HF6.out).cell HU1.out; obtain ⟨z0, z1, z0f, z1f, l1, l1f, hll, _⟩ := box2 (heap_alloc_new w6 (.cells #[.bool false, .slice none 0 0] 56)) (.bool u.opened) (.slice An u.tasks.length cn); have q0 := obj_cell (heap_alloc_new w6 (.cells #[.bool u.opened, .slice An u.tasks.length cn] 56)) (i := 0) rfl; have q1 := obj_cell (heap_alloc_new w6 (.cells #[.bool u.opened, .slice An u.tasks.length cn] 56)) (i := 1) rfl; clear hll hE6)
            | (go_at_call 40; refine (lSameCluster _ _ R.1 _ HO23.out HO3.out).mono ?_; rintro e w4 ⟨rfl, hE4⟩; have HF4 := hid hE4; obtain ⟨hb0, hb1⟩ := KB.out _ (HE3.out.trans HF4.out); obtain ⟨p20, p21⟩ := K2.out _ (HQ3.out.trans HF4.out); obtain ⟨p30, p31⟩ := K3.out _ HF4.out; clear hE4)
            | (go_at_call 38; refine (iClusterOpen _ C _ _ _ HCW.out HS.out.len HS.out.flat HS.out.ids).mono ?_; rw [← HRR.out]; rintro e w2 ⟨v2, rfl, hO2, hE2⟩; obtain ⟨A2, c2, B2, d2, rfl⟩ := hO2.form; obtain ⟨y0, y1, y0f, y1f, k1, k1f, hkk, _⟩ := box2 (heap_alloc_new w2 (.cells #[.slice none 0 0, .slice none 0 0] 26)) (.slice A2 R.1.room.length c2) (.slice B2 R.1.units.length d2); have hx2 := Ext.alloc w2 (.cells #[.slice A2 R.1.room.length c2, .slice B2 R.1.units.length d2] 26); have hbx2 := heap_alloc_new w2 (.cells #[.slice A2 R.1.room.length c2, .slice B2 R.1.units.length d2] 26); have HO2 := hid (hO2.read.ext hx2); have HE2 := hid ((hE2.trans hx2)); have K2 := hid (show ∀ w', Ext (w2.alloc (.cells #[.slice A2 R.1.room.length c2, .slice B2 R.1.units.length d2] 26)) w' → w'.cell? ⟨w2.heap.size, 0, none⟩ = some (.slice A2 R.1.room.length c2) ∧ w'.cell? ⟨w2.heap.size, 1, none⟩ = some (.slice B2 R.1.units.length d2) from fun w' hw => ⟨obj_cell (hw.obj hbx2) (i := 0) rfl, obj_cell (hw.obj hbx2) (i := 1) rfl⟩); obtain ⟨hb0, hb1⟩ := KB.out _ HE2.out; clear hO2 hE2 hkk hx2 hbx2)
            | (go_at_call 39; refine (sClusterOpen _ C _ _ _ (HCW.out.ext HE2.out) HS.out.len HS.out.flat).mono ?_; rw [← HRR.out]; rintro e w3 ⟨v3, rfl, hO3, hE3⟩; obtain ⟨A3, c3, B3, d3, rfl⟩ := hO3.form; obtain ⟨y0, y1, y0f, y1f, k1, k1f, hkk, _⟩ := box2 (heap_alloc_new w3 (.cells #[.slice none 0 0, .slice none 0 0] 26)) (.slice A3 R.1.room.length c3) (.slice B3 R.1.units.length d3); have hx3 := Ext.alloc w3 (.cells #[.slice A3 R.1.room.length c3, .slice B3 R.1.units.length d3] 26); have hbx3 := heap_alloc_new w3 (.cells #[.slice A3 R.1.room.length c3, .slice B3 R.1.units.length d3] 26); have HO3 := hid (hO3.read.ext hx3); have HE3 := hid (HE2.out.trans (hE3.trans hx3)); have K3 := hid (show ∀ w', Ext (w3.alloc (.cells #[.slice A3 R.1.room.length c3, .slice B3 R.1.units.length d3] 26)) w' → w'.cell? ⟨w3.heap.size, 0, none⟩ = some (.slice A3 R.1.room.length c3) ∧ w'.cell? ⟨w3.heap.size, 1, none⟩ = some (.slice B3 R.1.units.length d3) from fun w' hw => ⟨obj_cell (hw.obj hbx3) (i := 0) rfl, obj_cell (hw.obj hbx3) (i := 1) rfl⟩); have hq3 := hE3.trans hx3; have HO23 := hid (HO2.out.ext hq3); have HQ3 := hid hq3; obtain ⟨hb0, hb1⟩ := KB.out _ HE3.out; obtain ⟨p20, p21⟩ := K2.out _ hq3; obtain ⟨p30, p31⟩ := K3.out _ (Ext.refl _); clear hO3 hE3 hkk hx3 hbx3 hq3))
          go_ret
          exact ⟨rfl, HEW.out.trans (HE3.out.trans (HF6.out.trans (Ext.alloc _ _)))⟩
        exfalso
        have hh := HCL.out
        have e1 : u.opened = true ∨ u.opened = false := by cases u.opened <;> simp
        have e2 : op = true ∨ op = false := by cases op <;> simp
        by_cases h4 : 0 < u.tasks.length
        · rcases e1 with e1 | e1
          · rcases e2 with e2 | e2
            · exact hca ⟨e1, e2, h4⟩
            · exact hcc ⟨e1, e2, h4⟩
          · rcases hh with hh | hh
            · rw [e1] at hh; cases hh
            · rw [hh] at h4; simp at h4
        · rcases e1 with e1 | e1 <;> rcases e2 with e2 | e2
          · exact hcb ⟨e1, e2, h4⟩
          · exact hcd ⟨e1, e2, h4⟩
          · exact hce ⟨e1, e2, h4⟩
          · exact hcf ⟨e1, e2, h4⟩
      · have HR1 : Hid (R.1 = C) := hid (by rw [HRR.out, openC_none hv hth])
        have hR2 : R.2 = 4 := by rw [HRR.out, openC_none hv hth]
        by_cases hn0 : 0 ≤ node
        · have hnl : ¬ node < (C.units.length : Int) := fun hx => hth ⟨hn0, hx⟩
          have hdl : decide (node < (C.units.length : Int)) = false := decide_eq_false hnl
          clear hth
          go_wp2_with (first
            | (go_at_call 40; have hq := HF6.out; refine (lSameCluster _ _ R.1 _ (HO23.out.ext hq) (by rw [HR1.out]; exact HCW.out.ext (HE3.out.trans hq))).mono ?_; rintro e w7 ⟨rfl, hE7⟩; have HF7 := hid (hq.trans hE7); clear hE7 hq)
            | (go_at_call 42; refine (sClusterValid _ C _ (HCW.out.ext (HE3.out.trans HF4.out)) HS.out.len HS.out.flat).mono ?_; rintro e w6 ⟨rfl, hE6⟩; rw [hv]; have HF6 := hid (HF4.out.trans hE6); obtain ⟨hb0, hb1⟩ := KB.out _ (HE3.out.trans HF6.out); obtain ⟨p20, p21⟩ := K2.out _ (HQ3.out.trans HF6.out); obtain ⟨p30, p31⟩ := K3.out _ HF6.out; clear hE6)
            | (go_at_call 40; refine (lSameCluster _ _ R.1 _ HO23.out HO3.out).mono ?_; rintro e w4 ⟨rfl, hE4⟩; have HF4 := hid hE4; obtain ⟨hb0, hb1⟩ := KB.out _ (HE3.out.trans HF4.out); obtain ⟨p20, p21⟩ := K2.out _ (HQ3.out.trans HF4.out); obtain ⟨p30, p31⟩ := K3.out _ HF4.out; clear hE4)
            | (go_at_call 38; refine (iClusterOpen _ C _ _ _ HCW.out HS.out.len HS.out.flat HS.out.ids).mono ?_; rw [← HRR.out]; rintro e w2 ⟨v2, rfl, hO2, hE2⟩; obtain ⟨A2, c2, B2, d2, rfl⟩ := hO2.form; obtain ⟨y0, y1, y0f, y1f, k1, k1f, hkk, _⟩ := box2 (heap_alloc_new w2 (.cells #[.slice none 0 0, .slice none 0 0] 26)) (.slice A2 R.1.room.length c2) (.slice B2 R.1.units.length d2); have hx2 := Ext.alloc w2 (.cells #[.slice A2 R.1.room.length c2, .slice B2 R.1.units.length d2] 26); have hbx2 := heap_alloc_new w2 (.cells #[.slice A2 R.1.room.length c2, .slice B2 R.1.units.length d2] 26); have HO2 := hid (hO2.read.ext hx2); have HE2 := hid ((hE2.trans hx2)); have K2 := hid (show ∀ w', Ext (w2.alloc (.cells #[.slice A2 R.1.room.length c2, .slice B2 R.1.units.length d2] 26)) w' → w'.cell? ⟨w2.heap.size, 0, none⟩ = some (.slice A2 R.1.room.length c2) ∧ w'.cell? ⟨w2.heap.size, 1, none⟩ = some (.slice B2 R.1.units.length d2) from fun w' hw => ⟨obj_cell (hw.obj hbx2) (i := 0) rfl, obj_cell (hw.obj hbx2) (i := 1) rfl⟩); obtain ⟨hb0, hb1⟩ := KB.out _ HE2.out; clear hO2 hE2 hkk hx2 hbx2)
            | (go_at_call 39; refine (sClusterOpen _ C _ _ _ (HCW.out.ext HE2.out) HS.out.len HS.out.flat).mono ?_; rw [← HRR.out]; rintro e w3 ⟨v3, rfl, hO3, hE3⟩; obtain ⟨A3, c3, B3, d3, rfl⟩ := hO3.form; obtain ⟨y0, y1, y0f, y1f, k1, k1f, hkk, _⟩ := box2 (heap_alloc_new w3 (.cells #[.slice none 0 0, .slice none 0 0] 26)) (.slice A3 R.1.room.length c3) (.slice B3 R.1.units.length d3); have hx3 := Ext.alloc w3 (.cells #[.slice A3 R.1.room.length c3, .slice B3 R.1.units.length d3] 26); have hbx3 := heap_alloc_new w3 (.cells #[.slice A3 R.1.room.length c3, .slice B3 R.1.units.length d3] 26); have HO3 := hid (hO3.read.ext hx3); have HE3 := hid (HE2.out.trans (hE3.trans hx3)); have K3 := hid (show ∀ w', Ext (w3.alloc (.cells #[.slice A3 R.1.room.length c3, .slice B3 R.1.units.length d3] 26)) w' → w'.cell? ⟨w3.heap.size, 0, none⟩ = some (.slice A3 R.1.room.length c3) ∧ w'.cell? ⟨w3.heap.size, 1, none⟩ = some (.slice B3 R.1.units.length d3) from fun w' hw => ⟨obj_cell (hw.obj hbx3) (i := 0) rfl, obj_cell (hw.obj hbx3) (i := 1) rfl⟩); have hq3 := hE3.trans hx3; have HO23 := hid (HO2.out.ext hq3); have HQ3 := hid hq3; obtain ⟨hb0, hb1⟩ := KB.out _ HE3.out; obtain ⟨p20, p21⟩ := K2.out _ hq3; obtain ⟨p30, p31⟩ := K3.out _ (Ext.refl _); clear hO3 hE3 hkk hx3 hbx3 hq3))
          go_ret
          exact ⟨rfl, HEW.out.trans (HE3.out.trans HF7.out)⟩
        · clear hth
          go_wp2_with (first
            | (go_at_call 40; have hq := HF6.out; refine (lSameCluster _ _ R.1 _ (HO23.out.ext hq) (by rw [HR1.out]; exact HCW.out.ext (HE3.out.trans hq))).mono ?_; rintro e w7 ⟨rfl, hE7⟩; have HF7 := hid (hq.trans hE7); clear hE7 hq)
            | (go_at_call 42; refine (sClusterValid _ C _ (HCW.out.ext (HE3.out.trans HF4.out)) HS.out.len HS.out.flat).mono ?_; rintro e w6 ⟨rfl, hE6⟩; rw [hv]; have HF6 := hid (HF4.out.trans hE6); obtain ⟨hb0, hb1⟩ := KB.out _ (HE3.out.trans HF6.out); obtain ⟨p20, p21⟩ := K2.out _ (HQ3.out.trans HF6.out); obtain ⟨p30, p31⟩ := K3.out _ HF6.out; clear hE6)
            | (go_at_call 40; refine (lSameCluster _ _ R.1 _ HO23.out HO3.out).mono ?_; rintro e w4 ⟨rfl, hE4⟩; have HF4 := hid hE4; obtain ⟨hb0, hb1⟩ := KB.out _ (HE3.out.trans HF4.out); obtain ⟨p20, p21⟩ := K2.out _ (HQ3.out.trans HF4.out); obtain ⟨p30, p31⟩ := K3.out _ HF4.out; clear hE4)
            | (go_at_call 38; refine (iClusterOpen _ C _ _ _ HCW.out HS.out.len HS.out.flat HS.out.ids).mono ?_; rw [← HRR.out]; rintro e w2 ⟨v2, rfl, hO2, hE2⟩; obtain ⟨A2, c2, B2, d2, rfl⟩ := hO2.form; obtain ⟨y0, y1, y0f, y1f, k1, k1f, hkk, _⟩ := box2 (heap_alloc_new w2 (.cells #[.slice none 0 0, .slice none 0 0] 26)) (.slice A2 R.1.room.length c2) (.slice B2 R.1.units.length d2); have hx2 := Ext.alloc w2 (.cells #[.slice A2 R.1.room.length c2, .slice B2 R.1.units.length d2] 26); have hbx2 := heap_alloc_new w2 (.cells #[.slice A2 R.1.room.length c2, .slice B2 R.1.units.length d2] 26); have HO2 := hid (hO2.read.ext hx2); have HE2 := hid ((hE2.trans hx2)); have K2 := hid (show ∀ w', Ext (w2.alloc (.cells #[.slice A2 R.1.room.length c2, .slice B2 R.1.units.length d2] 26)) w' → w'.cell? ⟨w2.heap.size, 0, none⟩ = some (.slice A2 R.1.room.length c2) ∧ w'.cell? ⟨w2.heap.size, 1, none⟩ = some (.slice B2 R.1.units.length d2) from fun w' hw => ⟨obj_cell (hw.obj hbx2) (i := 0) rfl, obj_cell (hw.obj hbx2) (i := 1) rfl⟩); obtain ⟨hb0, hb1⟩ := KB.out _ HE2.out; clear hO2 hE2 hkk hx2 hbx2)
            | (go_at_call 39; refine (sClusterOpen _ C _ _ _ (HCW.out.ext HE2.out) HS.out.len HS.out.flat).mono ?_; rw [← HRR.out]; rintro e w3 ⟨v3, rfl, hO3, hE3⟩; obtain ⟨A3, c3, B3, d3, rfl⟩ := hO3.form; obtain ⟨y0, y1, y0f, y1f, k1, k1f, hkk, _⟩ := box2 (heap_alloc_new w3 (.cells #[.slice none 0 0, .slice none 0 0] 26)) (.slice A3 R.1.room.length c3) (.slice B3 R.1.units.length d3); have hx3 := Ext.alloc w3 (.cells #[.slice A3 R.1.room.length c3, .slice B3 R.1.units.length d3] 26); have hbx3 := heap_alloc_new w3 (.cells #[.slice A3 R.1.room.length c3, .slice B3 R.1.units.length d3] 26); have HO3 := hid (hO3.read.ext hx3); have HE3 := hid (HE2.out.trans (hE3.trans hx3)); have K3 := hid (show ∀ w', Ext (w3.alloc (.cells #[.slice A3 R.1.room.length c3, .slice B3 R.1.units.length d3] 26)) w' → w'.cell? ⟨w3.heap.size, 0, none⟩ = some (.slice A3 R.1.room.length c3) ∧ w'.cell? ⟨w3.heap.size, 1, none⟩ = some (.slice B3 R.1.units.length d3) from fun w' hw => ⟨obj_cell (hw.obj hbx3) (i := 0) rfl, obj_cell (hw.obj hbx3) (i := 1) rfl⟩); have hq3 := hE3.trans hx3; have HO23 := hid (HO2.out.ext hq3); have HQ3 := hid hq3; obtain ⟨hb0, hb1⟩ := KB.out _ HE3.out; obtain ⟨p20, p21⟩ := K2.out _ hq3; obtain ⟨p30, p31⟩ := K3.out _ (Ext.refl _); clear hO3 hE3 hkk hx3 hbx3 hq3))
          go_ret
          exact ⟨rfl, HEW.out.trans (HE3.out.trans HF7.out)⟩
    · have hv : clusOk C = false := by simpa using hv
      go_wp2_with (first
        | (go_at_call 40; have hq := HF6.out; refine (lSameCluster _ _ R.1 _ (HO23.out.ext hq) (HO3.out.ext hq)).mono ?_; rintro e w7 ⟨rfl, hE7⟩; have HF7 := hid (hq.trans hE7); clear hE7 hq)
        | (go_at_call 42; refine (sClusterValid _ C _ (HCW.out.ext (HE3.out.trans HF4.out)) HS.out.len HS.out.flat).mono ?_; rintro e w6 ⟨rfl, hE6⟩; rw [hv]; have HF6 := hid (HF4.out.trans hE6); obtain ⟨hb0, hb1⟩ := KB.out _ (HE3.out.trans HF6.out); obtain ⟨p20, p21⟩ := K2.out _ (HQ3.out.trans HF6.out); obtain ⟨p30, p31⟩ := K3.out _ HF6.out; clear hE6)
        | (go_at_call 40; refine (lSameCluster _ _ R.1 _ HO23.out HO3.out).mono ?_; rintro e w4 ⟨rfl, hE4⟩; have HF4 := hid hE4; obtain ⟨hb0, hb1⟩ := KB.out _ (HE3.out.trans HF4.out); obtain ⟨p20, p21⟩ := K2.out _ (HQ3.out.trans HF4.out); obtain ⟨p30, p31⟩ := K3.out _ HF4.out; clear hE4)
        | (go_at_call 38; refine (iClusterOpen _ C _ _ _ HCW.out HS.out.len HS.out.flat HS.out.ids).mono ?_; rw [← HRR.out]; rintro e w2 ⟨v2, rfl, hO2, hE2⟩; obtain ⟨A2, c2, B2, d2, rfl⟩ := hO2.form; obtain ⟨y0, y1, y0f, y1f, k1, k1f, hkk, _⟩ := box2 (heap_alloc_new w2 (.cells #[.slice none 0 0, .slice none 0 0] 26)) (.slice A2 R.1.room.length c2) (.slice B2 R.1.units.length d2); have hx2 := Ext.alloc w2 (.cells #[.slice A2 R.1.room.length c2, .slice B2 R.1.units.length d2] 26); have hbx2 := heap_alloc_new w2 (.cells #[.slice A2 R.1.room.length c2, .slice B2 R.1.units.length d2] 26); have HO2 := hid (hO2.read.ext hx2); have HE2 := hid ((hE2.trans hx2)); have K2 := hid (show ∀ w', Ext (w2.alloc (.cells #[.slice A2 R.1.room.length c2, .slice B2 R.1.units.length d2] 26)) w' → w'.cell? ⟨w2.heap.size, 0, none⟩ = some (.slice A2 R.1.room.length c2) ∧ w'.cell? ⟨w2.heap.size, 1, none⟩ = some (.slice B2 R.1.units.length d2) from fun w' hw => ⟨obj_cell (hw.obj hbx2) (i := 0) rfl, obj_cell (hw.obj hbx2) (i := 1) rfl⟩); obtain ⟨hb0, hb1⟩ := KB.out _ HE2.out; clear hO2 hE2 hkk hx2 hbx2)
        | (go_at_call 39; refine (sClusterOpen _ C _ _ _ (HCW.out.ext HE2.out) HS.out.len HS.out.flat).mono ?_; rw [← HRR.out]; rintro e w3 ⟨v3, rfl, hO3, hE3⟩; obtain ⟨A3, c3, B3, d3, rfl⟩ := hO3.form; obtain ⟨y0, y1, y0f, y1f, k1, k1f, hkk, _⟩ := box2 (heap_alloc_new w3 (.cells #[.slice none 0 0, .slice none 0 0] 26)) (.slice A3 R.1.room.length c3) (.slice B3 R.1.units.length d3); have hx3 := Ext.alloc w3 (.cells #[.slice A3 R.1.room.length c3, .slice B3 R.1.units.length d3] 26); have hbx3 := heap_alloc_new w3 (.cells #[.slice A3 R.1.room.length c3, .slice B3 R.1.units.length d3] 26); have HO3 := hid (hO3.read.ext hx3); have HE3 := hid (HE2.out.trans (hE3.trans hx3)); have K3 := hid (show ∀ w', Ext (w3.alloc (.cells #[.slice A3 R.1.room.length c3, .slice B3 R.1.units.length d3] 26)) w' → w'.cell? ⟨w3.heap.size, 0, none⟩ = some (.slice A3 R.1.room.length c3) ∧ w'.cell? ⟨w3.heap.size, 1, none⟩ = some (.slice B3 R.1.units.length d3) from fun w' hw => ⟨obj_cell (hw.obj hbx3) (i := 0) rfl, obj_cell (hw.obj hbx3) (i := 1) rfl⟩); have hq3 := hE3.trans hx3; have HO23 := hid (HO2.out.ext hq3); have HQ3 := hid hq3; obtain ⟨hb0, hb1⟩ := KB.out _ HE3.out; obtain ⟨p20, p21⟩ := K2.out _ hq3; obtain ⟨p30, p31⟩ := K3.out _ (Ext.refl _); clear hO3 hE3 hkk hx3 hbx3 hq3))
      go_ret
      exact ⟨rfl, HEW.out.trans (HE3.out.trans HF7.out)⟩
  · have i1 : (1048576 : Int) < (bs.length : Int) := by omega
    go_enter Try.func8, Try.ntmps8
    go_wp2
    go_ret
    exact ⟨rfl, Ext.refl _⟩

end Go.Proofs.Ytfgibhdglbjadaa
