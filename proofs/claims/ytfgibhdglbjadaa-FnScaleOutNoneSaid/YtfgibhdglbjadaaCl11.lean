/- The reference lets a task arrive: the walk. -/
import Derived.Test.YtfgibhdglbjadaaCl10
namespace Go.Proofs.Ytfgibhdglbjadaa
open Go.RowKit
set_option maxRecDepth 4000

theorem OCl.low {w : World} {base base' : Nat} {cv : Value} {C : ClusD} (h : OCl w base cv C) (hb : base' ≤ base) : OCl w base' cv C := let ⟨rv, uv, ps, h1, h2, h3, h4, h5⟩ := h; ⟨rv, uv, ps, h1, h2, OUV.low h3 hb, h4, h5⟩
set_option maxHeartbeats 8000000 in
theorem sClusterArrive (cv xv : Value) (C : ClusD) (x : TaskD) (grant : Bool) (w : World) (h : ClusV w cv C) (hx : TaskV w xv x) (hl : C.units.length ≤ 4000000) (hfl : (C.units.map (·.tasks)).flatten.length ≤ 4000000) :
    Calls Try.prog 49 #[cv, xv, .bool grant] w (RetOC w (arriveC C x grant)) := by
  have hCV := h
  obtain ⟨rv, uv, rfl, hr, hu⟩ := h
  have hr0 := hr
  obtain ⟨Ar, cr, rfl, _⟩ := hr
  obtain ⟨Au, cu, rfl, _⟩ := hu
  have HTX := hid hx
  obtain ⟨nv, rfl, hnv⟩ := hx
  have hnv0 := hnv
  obtain ⟨An, cn, rfl, _⟩ := hnv
  obtain ⟨O1, hO1⟩ : ∃ O1 : Obj, O1 = .cells #[.slice Ar C.room.length cr, .slice Au C.units.length cu] 26 := ⟨_, rfl⟩
  obtain ⟨O2, hO2⟩ : ∃ O2 : Obj, O2 = .cells #[.int .i64 x.id, .slice An x.need.length cn] 64 := ⟨_, rfl⟩
  obtain ⟨O3, hO3⟩ : ∃ O3 : Obj, O3 = .cells #[.slice none 0 0, .slice none 0 0] 26 := ⟨_, rfl⟩
  obtain ⟨W, hW⟩ : ∃ W, W = ((w.alloc O1).alloc O2).alloc O3 := ⟨_, rfl⟩
  have hEW : Ext w W := by rw [hW]; exact ((Ext.alloc _ _).trans (Ext.alloc _ _)).trans (Ext.alloc _ _)
  have hb0 : W.heap[w.heap.size]? = some O1 := by rw [hW]; exact (Ext.alloc _ _).obj ((Ext.alloc _ _).obj (heap_alloc_new w _))
  have hb1 : W.heap[w.heap.size + 1]? = some O2 := by rw [hW]; exact (Ext.alloc _ _).obj (heap_new (by simp))
  have hb2 : W.heap[w.heap.size + 2]? = some O3 := by rw [hW]; exact heap_new (by simp)
  subst hO1 hO2 hO3
  have KB : Hid (∀ w', Ext W w' → w'.cell? ⟨w.heap.size, 0, none⟩ = some (.slice Ar C.room.length cr) ∧ w'.cell? ⟨w.heap.size, 1, none⟩ = some (.slice Au C.units.length cu) ∧ w'.cell? ⟨w.heap.size + 1, 0, none⟩ = some (.int .i64 x.id) ∧ w'.cell? ⟨w.heap.size + 1, 1, none⟩ = some (.slice An x.need.length cn)) :=
    hid fun w' hw => ⟨obj_cell (hw.obj hb0) (i := 0) rfl, obj_cell (hw.obj hb0) (i := 1) rfl, obj_cell (hw.obj hb1) (i := 0) rfl, obj_cell (hw.obj hb1) (i := 1) rfl⟩
  have B2 := hid hb2
  have HCV := hid (hCV.ext hEW)
  have HX := hid (HTX.out.ext hEW)
  have HRW := hid (RI.ext hr0 hEW)
  have HNW := hid (RI.ext hnv0 hEW)
  have HEW := hid hEW
  have HLE := hid hEW.size
  clear hCV hr0 hnv0 hb0 hb1 hb2 hEW HTX
  by_cases h1 : clusOk C = true
  · by_cases h2 : tasksOk C.room [x] = true
    · by_cases h3 : 0 ≤ whereL (C.units.map (·.tasks)) x.id
      · have HC : Hid (arriveC C x grant = (C, 2)) := hid (by unfold arriveC; rw [if_pos h1, if_pos h2, if_pos h3])
        go_enter Try.func49, Try.ntmps49
        go_wp2_with (first
          | (go_at_call 42; rw [← hW]; refine (sClusterValid _ C _ HCV.out hl hfl).mono ?_; rintro e w1 ⟨rfl, hE1⟩; rw [h1]; obtain ⟨c0, c1, x0, x1⟩ := KB.out _ hE1; have HE1 := hid hE1; clear hE1 hW)
          | (go_at_call 79; refine (sCopy21 _ C _ (HCV.out.ext HE1.out) hl (clus_small h1).1 (clus_small h1).2).mono ?_; rintro e w2 ⟨v2, rfl, ⟨rc, uc, ps, rfl, hrc, hou, hps, hnd⟩, hE2⟩; have HRC := hid hrc; obtain ⟨Arc, crc, rfl, _⟩ := hrc; obtain ⟨Auc, cuc, rfl, _⟩ := hou.form; have HOU := hid hou; have HPS := hid hps; have HND := hid hnd; have hEE := hE2.trans (Ext.alloc w2 (.cells #[.slice Arc C.room.length crc, .slice Auc ps.length cuc] 26)); have Q2 := hid (heap_alloc_new w2 (.cells #[.slice Arc C.room.length crc, .slice Auc ps.length cuc] 26)); obtain ⟨c0, c1, x0, x1⟩ := KB.out _ (HE1.out.trans hEE); have HE2 := hid (HE1.out.trans hEE); have HZ2 := hid hEE.size; have hE3 := Ext.alloc (w2.alloc (.cells #[.slice Arc C.room.length crc, .slice Auc ps.length cuc] 26)) (.cells #[.int .i64 x.id, .slice An x.need.length cn] 64); have HE3 := hid hE3; have HR3 := hid (RI.ext HRW.out (HE2.out.trans hE3)); have HT3 := hid (RSl.laid (E := ET) (x := x) (cs := [.int .i64 x.id, .slice An x.need.length cn]) (heap_new (w := w2.alloc (.cells #[.slice Arc C.room.length crc, .slice Auc ps.length cuc] 26)) (o := .cells #[.int .i64 x.id, .slice An x.need.length cn] 64) (H := w2.heap.size + 1) (by simp)) rfl ⟨_, rfl, RI.ext HNW.out (HE2.out.trans hE3)⟩); clear hou hps hnd hE2 hEE hE3)
          | (go_at_call 88; refine (sTasksValid _ _ C.room [x] _ HR3.out HT3.out).mono ?_; rintro e w4 ⟨rfl, n4, hw4⟩; rw [h2]; have hE4 : Ext (w2.alloc (.cells #[.slice Arc C.room.length crc, .slice Auc ps.length cuc] 26)) w4 := (by rw [hw4]; exact HE3.out.trans (Ext.drewN _ _)); have HE4 := hid (HE2.out.trans hE4); have HZ4 := hid (Nat.le_trans HZ2.out hE4.size); have Q4 := hid (hE4.obj Q2.out); have HR4 := hid (RI.ext (RI.ext HRC.out (Ext.alloc _ _)) hE4); have HO4 := hid (Own.ext (EUV.ok _) (Own.ext (EUV.ok _) HOU.out (Ext.alloc _ _)) hE4); obtain ⟨c0, c1, x0, x1⟩ := KB.out _ HE4.out; clear hw4 hE4))
        have KH : Hid (∀ w', Ext w4 w' → w'.cell? ⟨w.heap.size, 0, none⟩ = some (.slice Ar C.room.length cr) ∧ w'.cell? ⟨w.heap.size, 1, none⟩ = some (.slice Au C.units.length cu) ∧ w'.cell? ⟨w.heap.size + 1, 0, none⟩ = some (.int .i64 x.id) ∧ Ext w4 w') := hid fun w' hw => by
          obtain ⟨a1, a2, a3, _⟩ := KB.out _ (HE4.out.trans hw)
          exact ⟨a1, a2, a3, hw⟩
        go_region_held3 (fun w' => w'.cell? ⟨w.heap.size, 0, none⟩ = some (.slice Ar C.room.length cr) ∧ w'.cell? ⟨w.heap.size, 1, none⟩ = some (.slice Au C.units.length cu) ∧ w'.cell? ⟨w.heap.size + 1, 0, none⟩ = some (.int .i64 x.id) ∧ Ext w4 w')
          (first | exact KH.out _ (by assumption) | exact KH.out _ (Below.drew (Below.refl _ _)))
          (first
            | (go_at_call 81; refine (sBins21 _ C _ (HCV.out.ext (HE4.out.trans (Below.drew (Below.refl _ _)))) hl).mono ?_; rintro e w5 ⟨v5, rfl, hv5, hE5⟩; have h05 : Ext w4 w5 := Ext.trans (Below.drew (Below.refl _ _)) hE5; have HV5 := hid hv5.read; clear hv5 hE5)
            | (go_at_call 89; refine (sWhere _ _ x.id _ HV5.out).mono ?_; rintro e w6 ⟨rfl, n6, hw6⟩; have h06 : Ext w4 w6 := Ext.trans h05 (by rw [hw6]; exact Ext.drewN _ _); clear hw6))
        have HE6 := hid (HE4.out.trans h06)
        have Q6 := hid (h06.obj Q4.out)
        have HR6 := hid (RI.ext HR4.out h06)
        have HO6 := hid (Own.ext (EUV.ok _) HO4.out h06)
        obtain ⟨e0, e1, y0, y1, y0f, y1f, k1, k1f, r0, r1, hsm⟩ := res2 (HE6.out.obj B2.out) Q6.out
        have HSM := hid hsm
        clear hsm
        go_wp2
        refine bodyPost_ret (v := .tuple #[.agg #[.slice Arc C.room.length crc, .slice Auc ps.length cuc], .int .i64 2]) (by simp [results, Try.results49, go_sem, r0, r1]) rfl ?_
        rw [HC.out]
        exact ⟨_, rfl, ⟨_, _, ps, rfl, RI.same HR6.out (HSM.out _ (by rintro t rfl; decide)), Own.same (EUV.ok _) (OUV.low HO6.out (HEW.out.trans HE1.out).size) (HSM.out _ notClu), HPS.out, HND.out⟩, Below.setCell (Below.setCell (HEW.out.trans HE6.out) (by show w.heap.size ≤ w.heap.size + 2; omega) _) (by show w.heap.size ≤ w.heap.size + 2; omega) _⟩
      · have HN : Hid (x.need.length = 3 ∧ Bd 1000 x.need) := hid (by have h3 := (vecFits_ok (tasksOk_mem h2 (List.mem_singleton.2 rfl)).2).1; exact ⟨vecOk_len h3, (vecOk_bd h3).mono (by omega)⟩)
        have HC : Hid (arriveC C x grant = arrC C x grant) := hid (by unfold arriveC; rw [if_pos h1, if_pos h2, if_neg h3])
        have h3' : whereL (C.units.map (·.tasks)) x.id < 0 := by omega
        go_enter Try.func49, Try.ntmps49
        go_wp2_with (first
          | (go_at_call 42; rw [← hW]; refine (sClusterValid _ C _ HCV.out hl hfl).mono ?_; rintro e w1 ⟨rfl, hE1⟩; rw [h1]; obtain ⟨c0, c1, x0, x1⟩ := KB.out _ hE1; have HE1 := hid hE1; clear hE1 hW)
          | (go_at_call 79; refine (sCopy21 _ C _ (HCV.out.ext HE1.out) hl (clus_small h1).1 (clus_small h1).2).mono ?_; rintro e w2 ⟨v2, rfl, ⟨rc, uc, ps, rfl, hrc, hou, hps, hnd⟩, hE2⟩; have HRC := hid hrc; obtain ⟨Arc, crc, rfl, _⟩ := hrc; obtain ⟨Auc, cuc, rfl, _⟩ := hou.form; have HOU := hid hou; have HPS := hid hps; have HND := hid hnd; have hEE := hE2.trans (Ext.alloc w2 (.cells #[.slice Arc C.room.length crc, .slice Auc ps.length cuc] 26)); have Q2 := hid (heap_alloc_new w2 (.cells #[.slice Arc C.room.length crc, .slice Auc ps.length cuc] 26)); obtain ⟨c0, c1, x0, x1⟩ := KB.out _ (HE1.out.trans hEE); have HE2 := hid (HE1.out.trans hEE); have HZ2 := hid hEE.size; have hE3 := Ext.alloc (w2.alloc (.cells #[.slice Arc C.room.length crc, .slice Auc ps.length cuc] 26)) (.cells #[.int .i64 x.id, .slice An x.need.length cn] 64); have HE3 := hid hE3; have HR3 := hid (RI.ext HRW.out (HE2.out.trans hE3)); have HT3 := hid (RSl.laid (E := ET) (x := x) (cs := [.int .i64 x.id, .slice An x.need.length cn]) (heap_new (w := w2.alloc (.cells #[.slice Arc C.room.length crc, .slice Auc ps.length cuc] 26)) (o := .cells #[.int .i64 x.id, .slice An x.need.length cn] 64) (H := w2.heap.size + 1) (by simp)) rfl ⟨_, rfl, RI.ext HNW.out (HE2.out.trans hE3)⟩); clear hou hps hnd hE2 hEE hE3)
          | (go_at_call 88; refine (sTasksValid _ _ C.room [x] _ HR3.out HT3.out).mono ?_; rintro e w4 ⟨rfl, n4, hw4⟩; rw [h2]; have hE4 : Ext (w2.alloc (.cells #[.slice Arc C.room.length crc, .slice Auc ps.length cuc] 26)) w4 := (by rw [hw4]; exact HE3.out.trans (Ext.drewN _ _)); have HE4 := hid (HE2.out.trans hE4); have HZ4 := hid (Nat.le_trans HZ2.out hE4.size); have Q4 := hid (hE4.obj Q2.out); have HR4 := hid (RI.ext (RI.ext HRC.out (Ext.alloc _ _)) hE4); have HO4 := hid (Own.ext (EUV.ok _) (Own.ext (EUV.ok _) HOU.out (Ext.alloc _ _)) hE4); obtain ⟨c0, c1, x0, x1⟩ := KB.out _ HE4.out; clear hw4 hE4))
        have KH : Hid (∀ w', Ext w4 w' → w'.cell? ⟨w.heap.size, 0, none⟩ = some (.slice Ar C.room.length cr) ∧ w'.cell? ⟨w.heap.size, 1, none⟩ = some (.slice Au C.units.length cu) ∧ w'.cell? ⟨w.heap.size + 1, 0, none⟩ = some (.int .i64 x.id) ∧ Ext w4 w') := hid fun w' hw => by
          obtain ⟨a1, a2, a3, _⟩ := KB.out _ (HE4.out.trans hw)
          exact ⟨a1, a2, a3, hw⟩
        go_region_held3 (fun w' => w'.cell? ⟨w.heap.size, 0, none⟩ = some (.slice Ar C.room.length cr) ∧ w'.cell? ⟨w.heap.size, 1, none⟩ = some (.slice Au C.units.length cu) ∧ w'.cell? ⟨w.heap.size + 1, 0, none⟩ = some (.int .i64 x.id) ∧ Ext w4 w')
          (first | exact KH.out _ (by assumption) | exact KH.out _ (Below.drew (Below.refl _ _)))
          (first
            | (go_at_call 81; refine (sBins21 _ C _ (HCV.out.ext (HE4.out.trans (Below.drew (Below.refl _ _)))) hl).mono ?_; rintro e w5 ⟨v5, rfl, hv5, hE5⟩; have h05 : Ext w4 w5 := Ext.trans (Below.drew (Below.refl _ _)) hE5; have HV5 := hid hv5.read; clear hv5 hE5)
            | (go_at_call 89; refine (sWhere _ _ x.id _ HV5.out).mono ?_; rintro e w6 ⟨rfl, n6, hw6⟩; have h06 : Ext w4 w6 := Ext.trans h05 (by rw [hw6]; exact Ext.drewN _ _); clear hw6))
        have HE6 := hid (HE4.out.trans h06)
        have Q6 := hid (h06.obj Q4.out)
        have HR6 := hid (RI.ext HR4.out h06)
        have HO6 := hid (Own.ext (EUV.ok _) HO4.out h06)
        obtain ⟨c0, c1, x0, x1⟩ := KB.out _ HE6.out
        have d0 := obj_cell Q6.out (i := 0) rfl
        have d1 := obj_cell Q6.out (i := 1) rfl
        have HZ6 := hid (Nat.le_trans HZ4.out h06.size)
        obtain ⟨R, hR⟩ : ∃ R, R = arrC C x grant := ⟨_, rfl⟩
        have HRR := hid hR
        clear hR
        go_wp2_with (go_at_call 90; refine (sArr21 _ _ C x grant _ w1.heap.size ⟨_, _, ps, rfl, HR6.out, HO6.out, HPS.out, HND.out⟩ HZ6.out (HX.out.ext HE6.out) h1 HN.out).mono ?_; rintro e w7 ⟨v7, rfl, hO7, hB7⟩; rw [← HRR.out] at hO7 ⊢; obtain ⟨rv7, uv7, ps7, rfl, hr7, ho7, hp7, hn7⟩ := hO7; have HR7 := hid hr7; obtain ⟨A7, c7, rfl, _⟩ := hr7; obtain ⟨B7, d7, rfl, _⟩ := ho7.form; have HO7 := hid ho7; have HP7 := hid hp7; have HN7 := hid hn7; obtain ⟨y0, y1, y0f, y1f, k1, k1f, hkk, hsm⟩ := box2 ((hB7.block _ (obj_lt (HE1.out.obj B2.out))).trans (HE6.out.obj B2.out)) (.slice A7 R.1.room.length c7) (.slice B7 ps7.length d7); have r0 := obj_cell hkk (i := 0) rfl; have r1 := obj_cell hkk (i := 1) rfl; have HSM := hid hsm; have HB7 := hid hB7; clear ho7 hp7 hn7 hkk hsm hB7)
        refine bodyPost_ret (v := .tuple #[.agg #[.slice A7 R.1.room.length c7, .slice B7 ps7.length d7], .int .i64 R.2]) (by simp [results, Try.results49, go_sem, r0, r1]) rfl ?_
        rw [HC.out, ← HRR.out]
        exact ⟨_, rfl, ⟨_, _, ps7, rfl, RI.same HR7.out (HSM.out _ (by rintro t rfl; decide)), Own.same (EUV.ok _) (OUV.low HO7.out (HEW.out.trans HE1.out).size) (HSM.out _ notClu), HP7.out, HN7.out⟩, Below.setCell (Below.setCell (Below.trans (HEW.out.trans HE6.out) (HB7.out.mono (HEW.out.trans HE1.out).size)) (by show w.heap.size ≤ w.heap.size + 2; omega) _) (by show w.heap.size ≤ w.heap.size + 2; omega) _⟩

    · have h2 : tasksOk C.room [x] = false := by simpa using h2
      have HC : Hid (arriveC C x grant = (C, 1)) := hid (by unfold arriveC; rw [if_pos h1, h2]; rfl)
      go_enter Try.func49, Try.ntmps49
      go_wp2_with (first
        | (go_at_call 42; rw [← hW]; refine (sClusterValid _ C _ HCV.out hl hfl).mono ?_; rintro e w1 ⟨rfl, hE1⟩; rw [h1]; obtain ⟨c0, c1, x0, x1⟩ := KB.out _ hE1; have HE1 := hid hE1; clear hE1 hW)
        | (go_at_call 79; refine (sCopy21 _ C _ (HCV.out.ext HE1.out) hl (clus_small h1).1 (clus_small h1).2).mono ?_; rintro e w2 ⟨v2, rfl, ⟨rc, uc, ps, rfl, hrc, hou, hps, hnd⟩, hE2⟩; have HRC := hid hrc; obtain ⟨Arc, crc, rfl, _⟩ := hrc; obtain ⟨Auc, cuc, rfl, _⟩ := hou.form; have HOU := hid hou; have HPS := hid hps; have HND := hid hnd; have hEE := hE2.trans (Ext.alloc w2 (.cells #[.slice Arc C.room.length crc, .slice Auc ps.length cuc] 26)); have Q2 := hid (heap_alloc_new w2 (.cells #[.slice Arc C.room.length crc, .slice Auc ps.length cuc] 26)); obtain ⟨c0, c1, x0, x1⟩ := KB.out _ (HE1.out.trans hEE); have HE2 := hid (HE1.out.trans hEE); have HZ2 := hid hEE.size; have hE3 := Ext.alloc (w2.alloc (.cells #[.slice Arc C.room.length crc, .slice Auc ps.length cuc] 26)) (.cells #[.int .i64 x.id, .slice An x.need.length cn] 64); have HE3 := hid hE3; have HR3 := hid (RI.ext HRW.out (HE2.out.trans hE3)); have HT3 := hid (RSl.laid (E := ET) (x := x) (cs := [.int .i64 x.id, .slice An x.need.length cn]) (heap_new (w := w2.alloc (.cells #[.slice Arc C.room.length crc, .slice Auc ps.length cuc] 26)) (o := .cells #[.int .i64 x.id, .slice An x.need.length cn] 64) (H := w2.heap.size + 1) (by simp)) rfl ⟨_, rfl, RI.ext HNW.out (HE2.out.trans hE3)⟩); clear hou hps hnd hE2 hEE hE3)
        | (go_at_call 88; refine (sTasksValid _ _ C.room [x] _ HR3.out HT3.out).mono ?_; rintro e w4 ⟨rfl, n4, hw4⟩; rw [h2]; have hE4 : Ext (w2.alloc (.cells #[.slice Arc C.room.length crc, .slice Auc ps.length cuc] 26)) w4 := (by rw [hw4]; exact HE3.out.trans (Ext.drewN _ _)); have HE4 := hid (HE2.out.trans hE4); have HZ4 := hid (Nat.le_trans HZ2.out hE4.size); have Q4 := hid (hE4.obj Q2.out); have HR4 := hid (RI.ext (RI.ext HRC.out (Ext.alloc _ _)) hE4); have HO4 := hid (Own.ext (EUV.ok _) (Own.ext (EUV.ok _) HOU.out (Ext.alloc _ _)) hE4); obtain ⟨c0, c1, x0, x1⟩ := KB.out _ HE4.out; clear hw4 hE4; obtain ⟨e0, e1, y0, y1, y0f, y1f, k1, k1f, r0, r1, hsm⟩ := res2 (HE4.out.obj B2.out) Q4.out; have HSM := hid hsm; clear hsm))
      refine bodyPost_ret (v := .tuple #[.agg #[.slice Arc C.room.length crc, .slice Auc ps.length cuc], .int .i64 1]) (by simp [results, Try.results49, go_sem, r0, r1]) rfl ?_
      rw [HC.out]
      exact ⟨_, rfl, ⟨_, _, ps, rfl, RI.same HR4.out (HSM.out _ (by rintro t rfl; decide)), Own.same (EUV.ok _) (OUV.low HO4.out (HEW.out.trans HE1.out).size) (HSM.out _ notClu), HPS.out, HND.out⟩, Below.setCell (Below.setCell (HEW.out.trans HE4.out) (by show w.heap.size ≤ w.heap.size + 2; omega) _) (by show w.heap.size ≤ w.heap.size + 2; omega) _⟩
  · have h1 : clusOk C = false := by simpa using h1
    have HC : Hid (arriveC C x grant = (⟨[], []⟩, 1)) := hid (by unfold arriveC; rw [h1]; rfl)
    go_enter Try.func49, Try.ntmps49
    go_wp2_with (first
      | (go_at_call 42; rw [← hW]; refine (sClusterValid _ C _ HCV.out hl hfl).mono ?_; rintro e w1 ⟨rfl, hE1⟩; rw [h1]; obtain ⟨c0, c1, x0, x1⟩ := KB.out _ hE1; have HE1 := hid hE1; clear hE1 hW; obtain ⟨_, _, y0, y1, y0f, y1f, k1, k1f, r0, r1, hsm⟩ := res2 (HE1.out.obj B2.out) (HE1.out.obj B2.out); clear hsm))
    refine bodyPost_ret (v := .tuple #[.agg #[.slice none 0 0, .slice none 0 0], .int .i64 1]) (by simp [results, Try.results49, go_sem, r0, r1]) rfl ?_
    rw [HC.out]
    exact ⟨_, rfl, OCl.zero _ _, Below.setCell (Below.setCell (HEW.out.trans HE1.out) (by show w.heap.size ≤ w.heap.size + 2; omega) _) (by show w.heap.size ≤ w.heap.size + 2; omega) _⟩

end Go.Proofs.Ytfgibhdglbjadaa
