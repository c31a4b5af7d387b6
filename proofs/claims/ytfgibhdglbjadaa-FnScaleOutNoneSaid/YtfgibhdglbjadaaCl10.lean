/- The reference puts a task into a cluster: the walk. -/
import Derived.Test.YtfgibhdglbjadaaCl9
import Derived.Test.YtfgibhdglbjadaaCm1
namespace Go.Proofs.Ytfgibhdglbjadaa
open Go.RowKit
set_option maxRecDepth 4000

set_option maxHeartbeats 8000000 in
theorem sArr21 (cv xv : Value) (C : ClusD) (x : TaskD) (grant : Bool) (w : World) (base : Nat) (h : OCl w base cv C) (hbase : base ≤ w.heap.size) (hx : TaskV w xv x) (hC : clusOk C = true) (hn : x.need.length = 3 ∧ Bd 1000 x.need) :
    Calls Try.prog 90 #[cv, xv, .bool grant] w fun e w' => ∃ cv', e = .returned (.tuple #[cv', .int .i64 (arrC C x grant).2]) ∧ OCl w' base cv' (arrC C x grant).1 ∧ Below base w w' := by
  have hCV := h.read
  obtain ⟨rv, uv, ps, rfl, hr, hou, hps, hnd⟩ := h
  have hpl : ps.length = C.units.length := by rw [← hps, List.length_map]
  have hlen := clusOk_len hC
  obtain ⟨gu, cu, rfl, hgu⟩ := Own.row hou (by omega)
  have hgu2 := (Own.lt hou gu rfl).2
  have HR := hid hr
  obtain ⟨Ar, cr, rfl, _⟩ := hr
  have HTX := hid hx
  obtain ⟨nv, rfl, hnv⟩ := hx
  have HNV := hid hnv
  obtain ⟨An, cn, rfl, _⟩ := hnv
  obtain ⟨O1, hO1⟩ : ∃ O1 : Obj, O1 = .cells #[.slice Ar C.room.length cr, .slice (some ⟨gu, 0, none⟩) ps.length cu] 26 := ⟨_, rfl⟩
  obtain ⟨O2, hO2⟩ : ∃ O2 : Obj, O2 = .cells #[.int .i64 x.id, .slice An x.need.length cn] 64 := ⟨_, rfl⟩
  obtain ⟨O3, hO3⟩ : ∃ O3 : Obj, O3 = .cells #[.slice none 0 0, .slice none 0 0] 26 := ⟨_, rfl⟩
  obtain ⟨W, hW⟩ : ∃ W, W = ((w.alloc O1).alloc O2).alloc O3 := ⟨_, rfl⟩
  have hEW : Ext w W := by rw [hW]; exact ((Ext.alloc _ _).trans (Ext.alloc _ _)).trans (Ext.alloc _ _)
  have hb0 : W.heap[w.heap.size]? = some O1 := by rw [hW]; exact (Ext.alloc _ _).obj ((Ext.alloc _ _).obj (heap_alloc_new w _))
  have hb1 : W.heap[w.heap.size + 1]? = some O2 := by rw [hW]; exact (Ext.alloc _ _).obj (heap_new (by simp))
  have hb2 : W.heap[w.heap.size + 2]? = some O3 := by rw [hW]; exact heap_new (by simp)
  subst hO1 hO2 hO3
  have KB : Hid (∀ w', Ext W w' → w'.cell? ⟨w.heap.size, 0, none⟩ = some (.slice Ar C.room.length cr) ∧ w'.cell? ⟨w.heap.size, 1, none⟩ = some (.slice (some ⟨gu, 0, none⟩) ps.length cu) ∧ w'.cell? ⟨w.heap.size + 1, 0, none⟩ = some (.int .i64 x.id) ∧ w'.cell? ⟨w.heap.size + 1, 1, none⟩ = some (.slice An x.need.length cn)) :=
    hid fun w' hw => ⟨obj_cell (hw.obj hb0) (i := 0) rfl, obj_cell (hw.obj hb0) (i := 1) rfl, obj_cell (hw.obj hb1) (i := 0) rfl, obj_cell (hw.obj hb1) (i := 1) rfl⟩
  have B0 := hid hb0
  have B1 := hid hb1
  have B2 := hid hb2
  have HCV := hid (hCV.ext hEW)
  have HX := hid (HTX.out.ext hEW)
  have HRW := hid (RI.ext HR.out hEW)
  have HNW := hid (RI.ext HNV.out hEW)
  have HOW := hid (Own.ext (EUV.ok _) hou hEW)
  have HPS := hid hps
  have HND := hid hnd
  have HLT := hid (OUV.lt hou)
  have HEW := hid hEW
  have HC := hid hC
  have HN := hid hn
  have HL : Hid (C.units.length ≤ 4000000) := hid (by omega)
  have HFLB : Hid ((C.units.map (·.tasks)).flatten.length ≤ 4000000) := hid (by have := tasksOk_len (binsOk_tk (clusOk_bins HC.out)); omega)
  obtain ⟨L, hL⟩ : ∃ L, L = (C.units.map (·.tasks)).flatten.length := ⟨_, rfl⟩
  obtain ⟨i0_int, hi0_int, hz0_int, hz1_int, hz2_int⟩ := info_parts info_int
  obtain ⟨i0_task, hi0_task, hz0_task, hz1_task, hz2_task⟩ := info_parts info_task
  have HPL := hid hpl
  have HLL := hid hL
  clear hL
  clear hpl hCV hou hps hnd hb0 hb1 hb2 hEW hC hn hlen HR HNV
  by_cases h1 : atC C x true < 0
  · by_cases h2 : grant = true
    · subst h2
      by_cases h3 : atC C x false < 0
      · have HA : Hid (arrC C x true = (C, 3)) := hid (by unfold arrC atB; rw [if_pos (.inl (by simp [h1, h3]))])
        go_enter Try.func90, Try.ntmps90
        go_wp2_with (first
          | (go_at_call 132; have hq := HE1.out; refine (sAt21 _ _ C x false _ (HCV.out.ext hq) (HX.out.ext hq) HC.out HN.out).mono ?_; rintro e w2 ⟨rfl, hE2⟩;  obtain ⟨c0, c1, x0, x1⟩ := KB.out _ (hq.trans hE2); have HE2 := hid (hq.trans hE2); clear hE2 hq; obtain ⟨e0, e1, y0, y1, y0f, y1f, k1, k1f, r0, r1, hsm⟩ := res2 (HE2.out.obj B2.out) (HE2.out.obj B0.out); have HSM := hid hsm; clear hsm)
          | (go_at_call 132; rw [← hW]; refine (sAt21 _ _ C x true _ HCV.out HX.out HC.out HN.out).mono ?_; rintro e w1 ⟨rfl, hE1⟩;  obtain ⟨c0, c1, x0, x1⟩ := KB.out _ hE1; have HE1 := hid hE1; clear hE1 hW; skip))
        refine bodyPost_ret (v := .tuple #[.agg #[.slice Ar C.room.length cr, .slice (some ⟨gu, 0, none⟩) ps.length cu], .int .i64 3]) (by simp [results, Try.results90, go_sem, r0, r1]) rfl ?_
        rw [HA.out]
        have HEL := hid (HEW.out.trans HE2.out)
        exact ⟨_, rfl, ⟨_, _, ps, rfl, RI.same (RI.ext HRW.out HE2.out) (HSM.out _ (by rintro t rfl; decide)), Own.same (EUV.ok _) (Own.ext (EUV.ok _) HOW.out HE2.out) (HSM.out _ notClu), HPS.out, HND.out⟩, Below.setCell (Below.setCell (HEL.out.mono hbase) (by show base ≤ w.heap.size + 2; omega) _) (by show base ≤ w.heap.size + 2; omega) _⟩
      · obtain ⟨k, hk⟩ : ∃ k : Nat, atC C x false = k := ⟨_, (Int.toNat_of_nonneg (by omega)).symm⟩
        have hkl : k < C.units.length := by have := idxI_lt (canC C x false) C.units; unfold atC at hk; omega
        obtain ⟨u, ex⟩ : ∃ u, Hid (C.units[k]? = some u) := ⟨_, hid (List.getElem?_eq_getElem hkl)⟩
        have HB : Hid (atB C x true = k) := hid (by unfold atB; simp [h1, hk])
        have ip : (k : Int) < (ps.length : Int) := by have := HPL.out; omega
        have i0 : ¬ (k : Int) < 0 := by omega
        have i00 : (0 : Int) ≤ (k : Int) := by omega
        by_cases hf : L = 14
        · have hf1 : ((L : Int) == 14) = true := by simpa using (by omega : (L : Int) = 14)
          have HA : Hid (arrC C x true = (C, 3)) := hid (by unfold arrC; rw [if_pos (.inr (HLL.out.symm.trans hf))])
          clear hf
          go_enter Try.func90, Try.ntmps90
          go_wp2_with (first
            | (go_at_call 132; have hq := HE1.out; refine (sAt21 _ _ C x false _ (HCV.out.ext hq) (HX.out.ext hq) HC.out HN.out).mono ?_; rintro e w2 ⟨rfl, hE2⟩; rw [hk]; obtain ⟨c0, c1, x0, x1⟩ := KB.out _ (hq.trans hE2); have HE2 := hid (hq.trans hE2); clear hE2 hq; skip)
            | (go_at_call 132; rw [← hW]; refine (sAt21 _ _ C x true _ HCV.out HX.out HC.out HN.out).mono ?_; rintro e w1 ⟨rfl, hE1⟩;  obtain ⟨c0, c1, x0, x1⟩ := KB.out _ hE1; have HE1 := hid hE1; clear hE1 hW; skip)
            | (go_at_call 81; refine (sBins21 _ C _ (HCV.out.ext HE2.out) HL.out).mono ?_; rintro e w3 ⟨v3, rfl, hv3, hE3⟩; have HV3 := hid hv3.read; have HE3 := hid (HE2.out.trans hE3); clear hv3 hE3)
            | (go_at_call 120; refine (sAll _ _ _ HV3.out HFLB.out).mono ?_; rintro e w4 ⟨v4, rfl, hv4, hE4⟩; obtain ⟨A4, c4, rfl, _, _⟩ := hv4.form; rw [← HLL.out]; have HE4 := hid (HE3.out.trans hE4); obtain ⟨c0, c1, x0, x1⟩ := KB.out _ HE4.out; clear hv4 hE4; obtain ⟨e0, e1, y0, y1, y0f, y1f, k1, k1f, r0, r1, hsm⟩ := res2 (HE4.out.obj B2.out) (HE4.out.obj B0.out); have HSM := hid hsm; clear hsm))
          refine bodyPost_ret (v := .tuple #[.agg #[.slice Ar C.room.length cr, .slice (some ⟨gu, 0, none⟩) ps.length cu], .int .i64 3]) (by simp [results, Try.results90, go_sem, r0, r1]) rfl ?_
          rw [HA.out]
          have HEL := hid (HEW.out.trans HE4.out)
          exact ⟨_, rfl, ⟨_, _, ps, rfl, RI.same (RI.ext HRW.out HE4.out) (HSM.out _ (by rintro t rfl; decide)), Own.same (EUV.ok _) (Own.ext (EUV.ok _) HOW.out HE4.out) (HSM.out _ notClu), HPS.out, HND.out⟩, Below.setCell (Below.setCell (HEL.out.mono hbase) (by show base ≤ w.heap.size + 2; omega) _) (by show base ≤ w.heap.size + 2; omega) _⟩
        · have hf1 : ((L : Int) == 14) = false := by simpa using (by omega : ¬ (L : Int) = 14)
          have HA : Hid (arrC C x true = (⟨C.room, C.units.set k ⟨true, u.tasks ++ [x]⟩⟩, 0)) := hid (by unfold arrC; rw [if_neg (by rw [HB.out, ← HLL.out]; omega), HB.out, Int.toNat_natCast, ex.out])
          clear hf
          go_enter Try.func90, Try.ntmps90
          go_wp2_with (first
            | (go_at_call 132; have hq := HE1.out; refine (sAt21 _ _ C x false _ (HCV.out.ext hq) (HX.out.ext hq) HC.out HN.out).mono ?_; rintro e w2 ⟨rfl, hE2⟩; rw [hk]; obtain ⟨c0, c1, x0, x1⟩ := KB.out _ (hq.trans hE2); have HE2 := hid (hq.trans hE2); clear hE2 hq; skip)
            | (go_at_call 132; rw [← hW]; refine (sAt21 _ _ C x true _ HCV.out HX.out HC.out HN.out).mono ?_; rintro e w1 ⟨rfl, hE1⟩;  obtain ⟨c0, c1, x0, x1⟩ := KB.out _ hE1; have HE1 := hid hE1; clear hE1 hW; skip)
            | (go_at_call 81; refine (sBins21 _ C _ (HCV.out.ext HE2.out) HL.out).mono ?_; rintro e w3 ⟨v3, rfl, hv3, hE3⟩; have HV3 := hid hv3.read; have HE3 := hid (HE2.out.trans hE3); clear hv3 hE3)
            | (go_at_call 120; refine (sAll _ _ _ HV3.out HFLB.out).mono ?_; rintro e w4 ⟨v4, rfl, hv4, hE4⟩; obtain ⟨A4, c4, rfl, _, _⟩ := hv4.form; rw [← HLL.out]; have HE4 := hid (HE3.out.trans hE4); obtain ⟨c0, c1, x0, x1⟩ := KB.out _ HE4.out; clear hv4 hE4; have HO4 := hid (Own.ext (EUV.ok _) HOW.out HE4.out); obtain ⟨tv, hpk⟩ := at_fst HPS.out ex.out; obtain ⟨cx, fx⟩ := OUV.at_ HO4.out hpk; have HPK := hid hpk; clear hpk))
          obtain ⟨W5, hW5⟩ : ∃ W5, W5 = w4.setCell ⟨gu, k * 2, none⟩ (.bool true) := ⟨_, rfl⟩
          rw [← hW5]
          have hset := OUV.set0 HO4.out HPK.out true
          have hC5 := obj_far (HE4.out.obj B0.out) (p := ⟨gu, k * 2, none⟩) (by show w.heap.size ≠ gu; omega) (.bool true)
          have hX5 := obj_far (HE4.out.obj B1.out) (p := ⟨gu, k * 2, none⟩) (by show w.heap.size + 1 ≠ gu; omega) (.bool true)
          have hZ5 := obj_far (HE4.out.obj B2.out) (p := ⟨gu, k * 2, none⟩) (by show w.heap.size + 2 ≠ gu; omega) (.bool true)
          have hB5 : Below base w (w4.setCell ⟨gu, k * 2, none⟩ (.bool true)) := Below.setCell ((HEW.out.trans HE4.out).mono hbase) hgu _
          have hI5 : SameT (fun t => t = 3) w4 (w4.setCell ⟨gu, k * 2, none⟩ (.bool true)) := hset.2.mono (by rintro t rfl; decide)
          have hR5 := RI.same (RI.ext HRW.out HE4.out) hI5
          have hN5 := RI.same (RI.ext HNW.out HE4.out) hI5
          rw [← hW5] at hset hC5 hX5 hZ5 hB5 hR5 hN5
          clear hI5 hW5 cx fx
          have HO5 := hid hset.1
          have hpk5 : (ps.set k (⟨true, u.tasks⟩, tv))[k]? = some (⟨true, u.tasks⟩, tv) := List.getElem?_set_self (List.getElem?_eq_some_iff.1 HPK.out).1
          have HND5 : Hid (blocksOf (ps.set k (⟨true, u.tasks⟩, tv))).Nodup := hid (by rw [blocksOf_set HPK.out]; exact HND.out)
          have HLT5 : Hid (∀ g ∈ blocksOf (ps.set k (⟨true, u.tasks⟩, tv)), g < w.heap.size) := hid (by rw [blocksOf_set HPK.out]; exact fun g hg => (HLT.out g hg).2)
          have hqs : (ps.set k (⟨true, u.tasks⟩, tv)).length = ps.length := List.length_set
          obtain ⟨qs, hqsd⟩ : ∃ qs, qs = ps.set k (⟨true, u.tasks⟩, tv) := ⟨_, rfl⟩
          have HMAP : Hid (qs.map (·.1) = C.units.set k ⟨true, u.tasks⟩) := hid (by rw [hqsd, List.map_set, HPS.out])
          rw [← hqsd] at HO5 hpk5 HND5 HLT5 hqs
          obtain ⟨d1, df1, htv, _⟩ := OUV.at1 HO5.out hpk5
          have htvl := htv.lt
          have htw : ∀ g, tv.ownBlock = some g → g < w.heap.size := fun g hg => HLT5.out g (List.mem_filterMap.2 ⟨_, List.mem_of_getElem? hpk5, hg⟩)
          obtain ⟨At, ct, htvf, _, _⟩ := htv.form
          subst htvf
          have HTV := hid htv
          have HTVL := hid htvl
          have HTW := hid htw
          have HPK5 := hid hpk5
          have HC5 := hid hC5
          have HX5 := hid hX5
          have HZ5 := hid hZ5
          have HB5 := hid hB5
          have HR5 := hid hR5
          have HN5 := hid hN5
          have HD1 := hid d1
          have c1 := obj_cell HC5.out (i := 1) rfl
          obtain ⟨curu, hcuru⟩ := Own.obj HO5.out
          have HU5 := hid hcuru
          clear hcuru
          have KS : Hid (∀ w' : World, w'.heap[w.heap.size]? = W5.heap[w.heap.size]? → w'.heap[w.heap.size + 1]? = W5.heap[w.heap.size + 1]? → w'.heap[gu]? = W5.heap[gu]? → w'.cell? ⟨w.heap.size, 1, none⟩ = some (.slice (some ⟨gu, 0, none⟩) ps.length cu) ∧ w'.cell? ⟨gu, k * 2 + 1, none⟩ = some (.slice At u.tasks.length ct) ∧ w'.cell? ⟨w.heap.size + 1, 0, none⟩ = some (.int .i64 x.id) ∧ w'.cell? ⟨w.heap.size + 1, 1, none⟩ = some (.slice An x.need.length cn)) :=
            hid fun w' h0 h1 h2 => ⟨obj_cell (h0.trans HC5.out) (i := 1) rfl, (World.cell?_of_block (w := W5) (a := ⟨gu, k * 2 + 1, none⟩) h2).trans HD1.out, obj_cell (h1.trans HX5.out) (i := 0) rfl, obj_cell (h1.trans HX5.out) (i := 1) rfl⟩
          have hgz : gu < W5.heap.size := (Own.lt HO5.out gu rfl).2
          have HGZ := hid hgz
          have hxz : w.heap.size + 2 < W5.heap.size := obj_lt HZ5.out
          have KE : Hid (∀ w', Ext W5 w' → w'.cell? ⟨w.heap.size, 1, none⟩ = some (.slice (some ⟨gu, 0, none⟩) ps.length cu) ∧ w'.cell? ⟨gu, k * 2 + 1, none⟩ = some (.slice At u.tasks.length ct) ∧ w'.cell? ⟨w.heap.size + 1, 0, none⟩ = some (.int .i64 x.id) ∧ w'.cell? ⟨w.heap.size + 1, 1, none⟩ = some (.slice An x.need.length cn)) :=
            hid fun w' hw => KS.out w' (hw.block _ (by omega)) (hw.block _ (by omega)) (hw.block _ hgz)
          have hED : Ext W5 W5.drew := Below.drew (Below.refl _ _)
          have HED := hid hED
          clear hset hC5 hX5 hZ5 hB5 hR5 hN5 hpk5 d1 htv htvl htw hED
          refine WG.start (fun w' => w'.cell? ⟨w.heap.size, 1, none⟩ = some (.slice (some ⟨gu, 0, none⟩) ps.length cu) ∧ w'.cell? ⟨gu, k * 2 + 1, none⟩ = some (.slice At u.tasks.length ct) ∧ w'.cell? ⟨w.heap.size + 1, 0, none⟩ = some (.int .i64 x.id) ∧ w'.cell? ⟨w.heap.size + 1, 1, none⟩ = some (.slice An x.need.length cn)) [20] (by kernel_rfl) (by exact KE.out _ HED.out) (fun hHeld => ?_)
          (refine WG.take (i := 0) (v := ?_) rfl (by kernel_rfl) (by kernel_rfl) (by kernel_rfl) (by kernel_rfl) (fun _ _ _ h => h) (Or.inl ⟨by rfl, ?_⟩) (by assumption) ?_; rotate_left; (intro w hSw; (try dsimp only at hSw); go_split_ands; go_simp; (try with_reducible rfl)); (try simp only [Act.put, List.setIfInBounds_toArray, List.set_cons_zero, List.set_cons_succ]))
          (refine WG.take (i := 1) (v := ?_) rfl (by kernel_rfl) (by kernel_rfl) (by kernel_rfl) (by kernel_rfl) (fun _ _ _ h => h) (Or.inl ⟨by rfl, ?_⟩) (by assumption) ?_; rotate_left; (intro w hSw; (try dsimp only at hSw); go_split_ands; go_simp; (try with_reducible rfl)); (try simp only [Act.put, List.setIfInBounds_toArray, List.set_cons_zero, List.set_cons_succ]))
          (refine WG.take (i := 2) (v := ?_) rfl (by kernel_rfl) (by kernel_rfl) (by kernel_rfl) (by kernel_rfl) (fun _ _ _ h => h) (Or.inl ⟨by rfl, ?_⟩) (by assumption) ?_; rotate_left; (intro w hSw; (try dsimp only at hSw); go_split_ands; go_simp; (try with_reducible rfl)); (try simp only [Act.put, List.setIfInBounds_toArray, List.set_cons_zero, List.set_cons_succ]))
          (refine WG.take (i := 3) (v := ?_) rfl (by kernel_rfl) (by kernel_rfl) (by kernel_rfl) (by kernel_rfl) (fun _ _ _ h => h) (Or.inl ⟨by rfl, ?_⟩) (by assumption) ?_; rotate_left; (intro w hSw; (try dsimp only at hSw); go_split_ands; go_simp; (try with_reducible rfl)); (try simp only [Act.put, List.setIfInBounds_toArray, List.set_cons_zero, List.set_cons_succ]))
          (refine WG.take (i := 4) (v := ?_) rfl (by kernel_rfl) (by kernel_rfl) (by kernel_rfl) (by kernel_rfl) (fun _ _ _ h => h) (Or.inl ⟨by rfl, ?_⟩) (by assumption) ?_; rotate_left; (intro w hSw; (try dsimp only at hSw); go_split_ands; go_simp; (try with_reducible rfl)); (try simp only [Act.put, List.setIfInBounds_toArray, List.set_cons_zero, List.set_cons_succ]))
          (refine WG.take (i := 5) (v := ?_) rfl (by kernel_rfl) (by kernel_rfl) (by kernel_rfl) (by kernel_rfl) (fun _ _ _ h => h) (Or.inl ⟨by rfl, ?_⟩) (by assumption) ?_; rotate_left; (intro w hSw; (try dsimp only at hSw); go_split_ands; go_simp; (try with_reducible rfl)); (try simp only [Act.put, List.setIfInBounds_toArray, List.set_cons_zero, List.set_cons_succ]))
          (refine WG.take (i := 6) (v := ?_) rfl (by kernel_rfl) (by kernel_rfl) (by kernel_rfl) (by kernel_rfl) (fun _ _ _ h => h) (Or.inl ⟨by rfl, ?_⟩) (by assumption) ?_; rotate_left; (intro w hSw; (try dsimp only at hSw); go_split_ands; go_simp; (try with_reducible rfl)); (try simp only [Act.put, List.setIfInBounds_toArray, List.set_cons_zero, List.set_cons_succ]))
          (refine WG.take (i := 7) (v := ?_) rfl (by kernel_rfl) (by kernel_rfl) (by kernel_rfl) (by kernel_rfl) (fun _ _ _ h => h) (Or.inl ⟨by rfl, ?_⟩) (by assumption) ?_; rotate_left; (intro w hSw; (try dsimp only at hSw); go_split_ands; go_simp; (try with_reducible rfl)); (try simp only [Act.put, List.setIfInBounds_toArray, List.set_cons_zero, List.set_cons_succ]))
          (refine WG.take (i := 8) (v := ?_) rfl (by kernel_rfl) (by kernel_rfl) (by kernel_rfl) (by kernel_rfl) (fun _ _ _ h => h) (Or.inl ⟨by rfl, ?_⟩) (by assumption) ?_; rotate_left; (intro w hSw; (try dsimp only at hSw); go_split_ands; go_simp; (try with_reducible rfl)); (try simp only [Act.put, List.setIfInBounds_toArray, List.set_cons_zero, List.set_cons_succ]))
          (refine WG.take (i := 9) (v := ?_) rfl (by kernel_rfl) (by kernel_rfl) (by kernel_rfl) (by kernel_rfl) (fun _ _ _ h => h) (Or.inl ⟨by rfl, ?_⟩) (by assumption) ?_; rotate_left; (intro w hSw; (try dsimp only at hSw); go_split_ands; go_simp; (try with_reducible rfl)); (try simp only [Act.put, List.setIfInBounds_toArray, List.set_cons_zero, List.set_cons_succ]))
          (refine WG.take (i := 10) (v := ?_) rfl (by kernel_rfl) (by kernel_rfl) (by kernel_rfl) (by kernel_rfl) (fun _ _ _ h => h) (Or.inl ⟨by rfl, ?_⟩) (by assumption) ?_; rotate_left; (intro w hSw; (try dsimp only at hSw); go_split_ands; go_simp; (try with_reducible rfl)); (try simp only [Act.put, List.setIfInBounds_toArray, List.set_cons_zero, List.set_cons_succ]))
          (refine WG.take (i := 12) (v := ?_) rfl (by kernel_rfl) (by kernel_rfl) (by kernel_rfl) (by kernel_rfl) (fun _ _ _ h => h) (Or.inl ⟨by rfl, ?_⟩) (by assumption) ?_; rotate_left; (intro w hSw; (try dsimp only at hSw); go_split_ands; go_simp; (try with_reducible rfl)); (try simp only [Act.put, List.setIfInBounds_toArray, List.set_cons_zero, List.set_cons_succ]))
          (refine WG.take (i := 13) (v := ?_) rfl (by kernel_rfl) (by kernel_rfl) (by kernel_rfl) (by kernel_rfl) (fun _ _ _ h => h) (Or.inl ⟨by rfl, ?_⟩) (by assumption) ?_; rotate_left; (intro w hSw; (try dsimp only at hSw); go_split_ands; go_simp; (try with_reducible rfl)); (try simp only [Act.put, List.setIfInBounds_toArray, List.set_cons_zero, List.set_cons_succ]))
          refine WG.one (i := 11) rfl (by kernel_rfl) (fun K hK => ?_)
          go_simp
          refine hK.out _ _ (by exact KE.out _ (HED.out.trans (Ext.alloc _ _))) (fun hHeld => ?_)
          clear hK K
          (try simp only [Act.put, List.setIfInBounds_toArray, List.set_cons_zero, List.set_cons_succ])
          have hEA : Ext W5 (W5.drew.alloc (.cells #[] 3)) := HED.out.trans (Ext.alloc _ _)
          have HM : Hid (OI (W5.drew.alloc (.cells #[] 3)) W5.heap.size (.slice (some ⟨W5.heap.size, 0, none⟩) 0 0) []) := hid (Own.madeAt (w := W5.drew) #[] 0 _ rfl (Nat.le_refl _) (by omega) rfl)
          have HNA := hid (RI.ext HN5.out hEA)
          have HEA := hid hEA
          clear hEA
          refine WG.one (i := 14) rfl (by kernel_rfl) (fun K hK => ?_)
          refine step_append_sl _ (by rfl) _ _ 23 (by rfl) EI.ok EI.flat (W5.heap.size) 3 EI.ne i0_int _ 1 8 Try.underlying23 hi0_int hz0_int hz1_int hz2_int rfl (by omega) _ (by rfl) _ (HM.out) _ (by rfl) _ (HNA.out) (by have := HN.out.1; simp; omega) (by have := HN.out.1; simp; omega) ?_ ?_; (focus (first | exact Nat.le_refl _ | (simp; done) | (simp; omega) | omega)); intro v6 w6 hO6 hg6 hat6 hs6; rw [List.nil_append] at hO6; obtain ⟨A6, c6, rfl, _, _⟩ := hO6.form; have hE6 := Ext.grown HEA.out hg6 HM.out.lt; have HO6 := hid hO6.read; have HE6 := hid hE6; clear hO6 hg6 hat6 hs6
          refine hK.out _ _ (by exact KE.out _ HE6.out) (fun hHeld => ?_)
          clear hK K
          (try simp only [Act.put, List.setIfInBounds_toArray, List.set_cons_zero, List.set_cons_succ])
          (refine WG.take (i := 15) (v := ?_) rfl (by kernel_rfl) (by kernel_rfl) (by kernel_rfl) (by kernel_rfl) (fun _ _ _ h => h) (Or.inl ⟨by rfl, ?_⟩) (by assumption) ?_; rotate_left; (intro w hSw; (try dsimp only at hSw); go_split_ands; go_simp; (try with_reducible rfl)); (try simp only [Act.put, List.setIfInBounds_toArray, List.set_cons_zero, List.set_cons_succ]))
          refine WG.one (i := 16) rfl (by kernel_rfl) (fun K hK => ?_)
          go_simp
          refine hK.out _ _ (by exact KE.out _ (HE6.out.trans (Ext.alloc _ _))) (fun hHeld => ?_)
          clear hK K
          (try simp only [Act.put, List.setIfInBounds_toArray, List.set_cons_zero, List.set_cons_succ])
          have hE7 : Ext W5 (w6.alloc (.cells #[.int .i64 x.id, .slice A6 x.need.length c6] 64)) := HE6.out.trans (Ext.alloc _ _)
          have HT7 := hid (Own.ext ET.ok HTV.out hE7)
          have HO7 := hid (Own.ext (EUV.ok _) HO5.out hE7)
          have HB7 := hid (Below.trans HB5.out (hE7.mono (by have := HB5.out.size; omega)))
          have HE7 := hid hE7
          have HR7 := hid (RI.ext HR5.out hE7)
          have hz7 := hE7.size
          have HUT : Hid (u.tasks.length ≤ 900) := hid (clusOk_unit HC.out (List.mem_of_getElem? ex.out)).1.1
          have hzw := HB7.out.size
          clear hE7
          refine WG.one (i := 17) rfl (by kernel_rfl) (fun K hK => ?_)
          refine step_append_sl _ (by rfl) _ _ 54 (by rfl) ET.ok ET.flat (base) 64 ET.ne i0_task _ 2 32 Try.underlying54 hi0_task hz0_task hz1_task hz2_task rfl (by omega) _ (by rfl) _ (HT7.out) _ (by rfl) _ (RSl.laid (cs := [.int .i64 x.id, .slice A6 x.need.length c6]) (heap_alloc_new _ _) rfl ⟨_, rfl, RI.ext HO6.out (Ext.alloc _ _)⟩) (by have := HUT.out; simp; omega) (by have := HUT.out; simp; omega) ?_ ?_; (focus (first | exact Nat.le_refl _ | (simp; done) | (simp; omega) | omega)); intro v8 w8 hO8 hg8 hat8 hs8; obtain ⟨A8, c8, rfl, _, _⟩ := hO8.form_app; have HO8 := hid hO8; have HG8 := hid hg8; have HAT8 := hid hat8; have HS8 := hid hs8; clear hO8 hg8 hat8 hs8
          refine hK.out _ _ (by exact KS.out _ ((HS8.out _ _ _ _ (by decide) (HE7.out.obj HC5.out)).trans HC5.out.symm) ((HG8.out.block _ (by omega) (fun e => by have := HTW.out _ e.symm; omega)).trans (HE7.out.block _ (by omega))) ((HG8.out.block _ (Nat.lt_of_lt_of_le HGZ.out HE7.out.size) (fun e => Own.block_ne (by decide) HT7.out HO7.out e.symm rfl)).trans (HE7.out.block _ HGZ.out))) (fun hHeld => ?_)
          clear hK K
          (try simp only [Act.put, List.setIfInBounds_toArray, List.set_cons_zero, List.set_cons_succ])
          (refine WG.take (i := 18) (v := ?_) rfl (by kernel_rfl) (by kernel_rfl) (by kernel_rfl) (by kernel_rfl) (fun _ _ _ h => h) (Or.inl ⟨by rfl, ?_⟩) (by assumption) ?_; rotate_left; (intro w hSw; (try dsimp only at hSw); go_split_ands; go_simp; (try with_reducible rfl)); (try simp only [Act.put, List.setIfInBounds_toArray, List.set_cons_zero, List.set_cons_succ]))
          (refine WG.take (i := 19) (v := ?_) rfl (by kernel_rfl) (by kernel_rfl) (by kernel_rfl) (by kernel_rfl) (fun _ _ _ h => h) (Or.inl ⟨by rfl, ?_⟩) (by assumption) ?_; rotate_left; (intro w hSw; (try dsimp only at hSw); go_split_ands; go_simp; (try with_reducible rfl)); (try simp only [Act.put, List.setIfInBounds_toArray, List.set_cons_zero, List.set_cons_succ]))
          have hgrow := OUV.grow HO7.out HND5.out HPK5.out HG8.out HS8.out HO8.out
          have hblk : w8.heap[gu]? = W5.heap[gu]? := (HG8.out.block _ (Nat.lt_of_lt_of_le HGZ.out HE7.out.size) (fun e => Own.block_ne (by decide) HT7.out HO7.out e.symm rfl)).trans (HE7.out.block _ HGZ.out)
          have cx8 := (World.cell?_of_block (w := W5) (a := ⟨gu, k * 2 + 1, none⟩) hblk).trans HD1.out
          have fx8 := obj_frozen (hblk.trans HU5.out) (k * 2 + 1)
          have HGROW := hid hgrow
          clear hgrow hblk
          refine WG.last (i := 20) rfl (by kernel_rfl) (by kernel_rfl) (fun K hK => ?_)
          go_simp
          refine hK.out _ _ ?_
          clear hK K
          (try simp only [Act.put, List.setIfInBounds_toArray, List.set_cons_zero, List.set_cons_succ])
          refine WG.done (by kernel_rfl) ?_
          have P9 := obj_far (HS8.out _ _ _ _ (by decide) (HE7.out.obj HZ5.out)) (p := ⟨gu, k * 2 + 1, none⟩) (by show w.heap.size + 2 ≠ gu; omega) (.slice A8 (u.tasks.length + 1) c8)
          have Q9 := obj_far (HS8.out _ _ _ _ (by decide) (HE7.out.obj HC5.out)) (p := ⟨gu, k * 2 + 1, none⟩) (by show w.heap.size ≠ gu; omega) (.slice A8 (u.tasks.length + 1) c8)
          obtain ⟨e0, e1, y0, y1, y0f, y1f, k1, k1f, r0, r1, hsm⟩ := res2 P9 Q9
          have HSM := hid hsm
          clear P9 Q9 hsm
          go_wp2
          refine bodyPost_ret (v := .tuple #[.agg #[.slice Ar C.room.length cr, .slice (some ⟨gu, 0, none⟩) ps.length cu], .int .i64 0]) (by simp [results, Try.results90, go_sem, r0, r1]) rfl ?_
          rw [HA.out]
          have hB8 : Below base w w8 := Below.grown HB7.out HG8.out (by omega) (fun a ha => (Own.lt HT7.out a ha).1)
          exact ⟨_, rfl, ⟨_, _, qs.set k (⟨true, u.tasks ++ [x]⟩, _), rfl, RI.same (RI.same (RI.same HR7.out (HS8.out.mono (by rintro t rfl; decide))) (HGROW.out.2.mono (by rintro t rfl; decide))) (HSM.out _ (by rintro t rfl; decide)), Own.same (EUV.ok _) HGROW.out.1 (HSM.out _ notClu), by rw [List.map_set, HMAP.out, List.set_set], nodup_app HND5.out HPK5.out HAT8.out (fun g hg => by have := HLT5.out g hg; omega)⟩, Below.setCell (Below.setCell (Below.setCell hB8 hgu _) (by show base ≤ w.heap.size + 2; omega) _) (by show base ≤ w.heap.size + 2; omega) _⟩
    · have h2 : grant = false := by simpa using h2
      subst h2
      have HA : Hid (arrC C x false = (C, 3)) := hid (by unfold arrC atB; rw [if_pos (.inl (by simp [h1]))])
      go_enter Try.func90, Try.ntmps90
      go_wp2_with (first
        | (go_at_call 132; rw [← hW]; refine (sAt21 _ _ C x true _ HCV.out HX.out HC.out HN.out).mono ?_; rintro e w1 ⟨rfl, hE1⟩;  obtain ⟨c0, c1, x0, x1⟩ := KB.out _ hE1; have HE1 := hid hE1; clear hE1 hW; obtain ⟨e0, e1, y0, y1, y0f, y1f, k1, k1f, r0, r1, hsm⟩ := res2 (HE1.out.obj B2.out) (HE1.out.obj B0.out); have HSM := hid hsm; clear hsm))
      refine bodyPost_ret (v := .tuple #[.agg #[.slice Ar C.room.length cr, .slice (some ⟨gu, 0, none⟩) ps.length cu], .int .i64 3]) (by simp [results, Try.results90, go_sem, r0, r1]) rfl ?_
      rw [HA.out]
      have HEL := hid (HEW.out.trans HE1.out)
      exact ⟨_, rfl, ⟨_, _, ps, rfl, RI.same (RI.ext HRW.out HE1.out) (HSM.out _ (by rintro t rfl; decide)), Own.same (EUV.ok _) (Own.ext (EUV.ok _) HOW.out HE1.out) (HSM.out _ notClu), HPS.out, HND.out⟩, Below.setCell (Below.setCell (HEL.out.mono hbase) (by show base ≤ w.heap.size + 2; omega) _) (by show base ≤ w.heap.size + 2; omega) _⟩
  · obtain ⟨k, hk⟩ : ∃ k : Nat, atC C x true = k := ⟨_, (Int.toNat_of_nonneg (by omega)).symm⟩
    have hkl : k < C.units.length := by have := idxI_lt (canC C x true) C.units; unfold atC at hk; omega
    obtain ⟨u, ex⟩ : ∃ u, Hid (C.units[k]? = some u) := ⟨_, hid (List.getElem?_eq_getElem hkl)⟩
    have HB : Hid (atB C x grant = k) := hid (by unfold atB; rw [if_neg (by omega), hk])
    have ip : (k : Int) < (ps.length : Int) := by have := HPL.out; omega
    have i0 : ¬ (k : Int) < 0 := by omega
    have i00 : (0 : Int) ≤ (k : Int) := by omega
    by_cases hf : L = 14
    · have hf1 : ((L : Int) == 14) = true := by simpa using (by omega : (L : Int) = 14)
      have HA : Hid (arrC C x grant = (C, 3)) := hid (by unfold arrC; rw [if_pos (.inr (HLL.out.symm.trans hf))])
      clear hf
      go_enter Try.func90, Try.ntmps90
      go_wp2_with (first
        | (go_at_call 132; rw [← hW]; refine (sAt21 _ _ C x true _ HCV.out HX.out HC.out HN.out).mono ?_; rintro e w1 ⟨rfl, hE1⟩; rw [hk]; obtain ⟨c0, c1, x0, x1⟩ := KB.out _ hE1; have HE1 := hid hE1; clear hE1 hW; skip)
        | (go_at_call 81; refine (sBins21 _ C _ (HCV.out.ext HE1.out) HL.out).mono ?_; rintro e w3 ⟨v3, rfl, hv3, hE3⟩; have HV3 := hid hv3.read; have HE3 := hid (HE1.out.trans hE3); clear hv3 hE3)
        | (go_at_call 120; refine (sAll _ _ _ HV3.out HFLB.out).mono ?_; rintro e w4 ⟨v4, rfl, hv4, hE4⟩; obtain ⟨A4, c4, rfl, _, _⟩ := hv4.form; rw [← HLL.out]; have HE4 := hid (HE3.out.trans hE4); obtain ⟨c0, c1, x0, x1⟩ := KB.out _ HE4.out; clear hv4 hE4; obtain ⟨e0, e1, y0, y1, y0f, y1f, k1, k1f, r0, r1, hsm⟩ := res2 (HE4.out.obj B2.out) (HE4.out.obj B0.out); have HSM := hid hsm; clear hsm))
      refine bodyPost_ret (v := .tuple #[.agg #[.slice Ar C.room.length cr, .slice (some ⟨gu, 0, none⟩) ps.length cu], .int .i64 3]) (by simp [results, Try.results90, go_sem, r0, r1]) rfl ?_
      rw [HA.out]
      have HEL := hid (HEW.out.trans HE4.out)
      exact ⟨_, rfl, ⟨_, _, ps, rfl, RI.same (RI.ext HRW.out HE4.out) (HSM.out _ (by rintro t rfl; decide)), Own.same (EUV.ok _) (Own.ext (EUV.ok _) HOW.out HE4.out) (HSM.out _ notClu), HPS.out, HND.out⟩, Below.setCell (Below.setCell (HEL.out.mono hbase) (by show base ≤ w.heap.size + 2; omega) _) (by show base ≤ w.heap.size + 2; omega) _⟩
    · have hf1 : ((L : Int) == 14) = false := by simpa using (by omega : ¬ (L : Int) = 14)
      have HA : Hid (arrC C x grant = (⟨C.room, C.units.set k ⟨true, u.tasks ++ [x]⟩⟩, 0)) := hid (by unfold arrC; rw [if_neg (by rw [HB.out, ← HLL.out]; omega), HB.out, Int.toNat_natCast, ex.out])
      clear hf
      go_enter Try.func90, Try.ntmps90
      go_wp2_with (first
        | (go_at_call 132; rw [← hW]; refine (sAt21 _ _ C x true _ HCV.out HX.out HC.out HN.out).mono ?_; rintro e w1 ⟨rfl, hE1⟩; rw [hk]; obtain ⟨c0, c1, x0, x1⟩ := KB.out _ hE1; have HE1 := hid hE1; clear hE1 hW; skip)
        | (go_at_call 81; refine (sBins21 _ C _ (HCV.out.ext HE1.out) HL.out).mono ?_; rintro e w3 ⟨v3, rfl, hv3, hE3⟩; have HV3 := hid hv3.read; have HE3 := hid (HE1.out.trans hE3); clear hv3 hE3)
        | (go_at_call 120; refine (sAll _ _ _ HV3.out HFLB.out).mono ?_; rintro e w4 ⟨v4, rfl, hv4, hE4⟩; obtain ⟨A4, c4, rfl, _, _⟩ := hv4.form; rw [← HLL.out]; have HE4 := hid (HE3.out.trans hE4); obtain ⟨c0, c1, x0, x1⟩ := KB.out _ HE4.out; clear hv4 hE4; have HO4 := hid (Own.ext (EUV.ok _) HOW.out HE4.out); obtain ⟨tv, hpk⟩ := at_fst HPS.out ex.out; obtain ⟨cx, fx⟩ := OUV.at_ HO4.out hpk; have HPK := hid hpk; clear hpk))
      obtain ⟨W5, hW5⟩ : ∃ W5, W5 = w4.setCell ⟨gu, k * 2, none⟩ (.bool true) := ⟨_, rfl⟩
      rw [← hW5]
      have hset := OUV.set0 HO4.out HPK.out true
      have hC5 := obj_far (HE4.out.obj B0.out) (p := ⟨gu, k * 2, none⟩) (by show w.heap.size ≠ gu; omega) (.bool true)
      have hX5 := obj_far (HE4.out.obj B1.out) (p := ⟨gu, k * 2, none⟩) (by show w.heap.size + 1 ≠ gu; omega) (.bool true)
      have hZ5 := obj_far (HE4.out.obj B2.out) (p := ⟨gu, k * 2, none⟩) (by show w.heap.size + 2 ≠ gu; omega) (.bool true)
      have hB5 : Below base w (w4.setCell ⟨gu, k * 2, none⟩ (.bool true)) := Below.setCell ((HEW.out.trans HE4.out).mono hbase) hgu _
      have hI5 : SameT (fun t => t = 3) w4 (w4.setCell ⟨gu, k * 2, none⟩ (.bool true)) := hset.2.mono (by rintro t rfl; decide)
      have hR5 := RI.same (RI.ext HRW.out HE4.out) hI5
      have hN5 := RI.same (RI.ext HNW.out HE4.out) hI5
      rw [← hW5] at hset hC5 hX5 hZ5 hB5 hR5 hN5
      clear hI5 hW5 cx fx
      have HO5 := hid hset.1
      have hpk5 : (ps.set k (⟨true, u.tasks⟩, tv))[k]? = some (⟨true, u.tasks⟩, tv) := List.getElem?_set_self (List.getElem?_eq_some_iff.1 HPK.out).1
      have HND5 : Hid (blocksOf (ps.set k (⟨true, u.tasks⟩, tv))).Nodup := hid (by rw [blocksOf_set HPK.out]; exact HND.out)
      have HLT5 : Hid (∀ g ∈ blocksOf (ps.set k (⟨true, u.tasks⟩, tv)), g < w.heap.size) := hid (by rw [blocksOf_set HPK.out]; exact fun g hg => (HLT.out g hg).2)
      have hqs : (ps.set k (⟨true, u.tasks⟩, tv)).length = ps.length := List.length_set
      obtain ⟨qs, hqsd⟩ : ∃ qs, qs = ps.set k (⟨true, u.tasks⟩, tv) := ⟨_, rfl⟩
      have HMAP : Hid (qs.map (·.1) = C.units.set k ⟨true, u.tasks⟩) := hid (by rw [hqsd, List.map_set, HPS.out])
      rw [← hqsd] at HO5 hpk5 HND5 HLT5 hqs
      obtain ⟨d1, df1, htv, _⟩ := OUV.at1 HO5.out hpk5
      have htvl := htv.lt
      have htw : ∀ g, tv.ownBlock = some g → g < w.heap.size := fun g hg => HLT5.out g (List.mem_filterMap.2 ⟨_, List.mem_of_getElem? hpk5, hg⟩)
      obtain ⟨At, ct, htvf, _, _⟩ := htv.form
      subst htvf
      have HTV := hid htv
      have HTVL := hid htvl
      have HTW := hid htw
      have HPK5 := hid hpk5
      have HC5 := hid hC5
      have HX5 := hid hX5
      have HZ5 := hid hZ5
      have HB5 := hid hB5
      have HR5 := hid hR5
      have HN5 := hid hN5
      have HD1 := hid d1
      have c1 := obj_cell HC5.out (i := 1) rfl
      obtain ⟨curu, hcuru⟩ := Own.obj HO5.out
      have HU5 := hid hcuru
      clear hcuru
      have KS : Hid (∀ w' : World, w'.heap[w.heap.size]? = W5.heap[w.heap.size]? → w'.heap[w.heap.size + 1]? = W5.heap[w.heap.size + 1]? → w'.heap[gu]? = W5.heap[gu]? → w'.cell? ⟨w.heap.size, 1, none⟩ = some (.slice (some ⟨gu, 0, none⟩) ps.length cu) ∧ w'.cell? ⟨gu, k * 2 + 1, none⟩ = some (.slice At u.tasks.length ct) ∧ w'.cell? ⟨w.heap.size + 1, 0, none⟩ = some (.int .i64 x.id) ∧ w'.cell? ⟨w.heap.size + 1, 1, none⟩ = some (.slice An x.need.length cn)) :=
        hid fun w' h0 h1 h2 => ⟨obj_cell (h0.trans HC5.out) (i := 1) rfl, (World.cell?_of_block (w := W5) (a := ⟨gu, k * 2 + 1, none⟩) h2).trans HD1.out, obj_cell (h1.trans HX5.out) (i := 0) rfl, obj_cell (h1.trans HX5.out) (i := 1) rfl⟩
      have hgz : gu < W5.heap.size := (Own.lt HO5.out gu rfl).2
      have HGZ := hid hgz
      have hxz : w.heap.size + 2 < W5.heap.size := obj_lt HZ5.out
      have KE : Hid (∀ w', Ext W5 w' → w'.cell? ⟨w.heap.size, 1, none⟩ = some (.slice (some ⟨gu, 0, none⟩) ps.length cu) ∧ w'.cell? ⟨gu, k * 2 + 1, none⟩ = some (.slice At u.tasks.length ct) ∧ w'.cell? ⟨w.heap.size + 1, 0, none⟩ = some (.int .i64 x.id) ∧ w'.cell? ⟨w.heap.size + 1, 1, none⟩ = some (.slice An x.need.length cn)) :=
        hid fun w' hw => KS.out w' (hw.block _ (by omega)) (hw.block _ (by omega)) (hw.block _ hgz)
      have hED : Ext W5 W5.drew := Below.drew (Below.refl _ _)
      have HED := hid hED
      clear hset hC5 hX5 hZ5 hB5 hR5 hN5 hpk5 d1 htv htvl htw hED
      refine WG.start (fun w' => w'.cell? ⟨w.heap.size, 1, none⟩ = some (.slice (some ⟨gu, 0, none⟩) ps.length cu) ∧ w'.cell? ⟨gu, k * 2 + 1, none⟩ = some (.slice At u.tasks.length ct) ∧ w'.cell? ⟨w.heap.size + 1, 0, none⟩ = some (.int .i64 x.id) ∧ w'.cell? ⟨w.heap.size + 1, 1, none⟩ = some (.slice An x.need.length cn)) [20] (by kernel_rfl) (by exact KE.out _ HED.out) (fun hHeld => ?_)
      (refine WG.take (i := 0) (v := ?_) rfl (by kernel_rfl) (by kernel_rfl) (by kernel_rfl) (by kernel_rfl) (fun _ _ _ h => h) (Or.inl ⟨by rfl, ?_⟩) (by assumption) ?_; rotate_left; (intro w hSw; (try dsimp only at hSw); go_split_ands; go_simp; (try with_reducible rfl)); (try simp only [Act.put, List.setIfInBounds_toArray, List.set_cons_zero, List.set_cons_succ]))
      (refine WG.take (i := 1) (v := ?_) rfl (by kernel_rfl) (by kernel_rfl) (by kernel_rfl) (by kernel_rfl) (fun _ _ _ h => h) (Or.inl ⟨by rfl, ?_⟩) (by assumption) ?_; rotate_left; (intro w hSw; (try dsimp only at hSw); go_split_ands; go_simp; (try with_reducible rfl)); (try simp only [Act.put, List.setIfInBounds_toArray, List.set_cons_zero, List.set_cons_succ]))
      (refine WG.take (i := 2) (v := ?_) rfl (by kernel_rfl) (by kernel_rfl) (by kernel_rfl) (by kernel_rfl) (fun _ _ _ h => h) (Or.inl ⟨by rfl, ?_⟩) (by assumption) ?_; rotate_left; (intro w hSw; (try dsimp only at hSw); go_split_ands; go_simp; (try with_reducible rfl)); (try simp only [Act.put, List.setIfInBounds_toArray, List.set_cons_zero, List.set_cons_succ]))
      (refine WG.take (i := 3) (v := ?_) rfl (by kernel_rfl) (by kernel_rfl) (by kernel_rfl) (by kernel_rfl) (fun _ _ _ h => h) (Or.inl ⟨by rfl, ?_⟩) (by assumption) ?_; rotate_left; (intro w hSw; (try dsimp only at hSw); go_split_ands; go_simp; (try with_reducible rfl)); (try simp only [Act.put, List.setIfInBounds_toArray, List.set_cons_zero, List.set_cons_succ]))
      (refine WG.take (i := 4) (v := ?_) rfl (by kernel_rfl) (by kernel_rfl) (by kernel_rfl) (by kernel_rfl) (fun _ _ _ h => h) (Or.inl ⟨by rfl, ?_⟩) (by assumption) ?_; rotate_left; (intro w hSw; (try dsimp only at hSw); go_split_ands; go_simp; (try with_reducible rfl)); (try simp only [Act.put, List.setIfInBounds_toArray, List.set_cons_zero, List.set_cons_succ]))
      (refine WG.take (i := 5) (v := ?_) rfl (by kernel_rfl) (by kernel_rfl) (by kernel_rfl) (by kernel_rfl) (fun _ _ _ h => h) (Or.inl ⟨by rfl, ?_⟩) (by assumption) ?_; rotate_left; (intro w hSw; (try dsimp only at hSw); go_split_ands; go_simp; (try with_reducible rfl)); (try simp only [Act.put, List.setIfInBounds_toArray, List.set_cons_zero, List.set_cons_succ]))
      (refine WG.take (i := 6) (v := ?_) rfl (by kernel_rfl) (by kernel_rfl) (by kernel_rfl) (by kernel_rfl) (fun _ _ _ h => h) (Or.inl ⟨by rfl, ?_⟩) (by assumption) ?_; rotate_left; (intro w hSw; (try dsimp only at hSw); go_split_ands; go_simp; (try with_reducible rfl)); (try simp only [Act.put, List.setIfInBounds_toArray, List.set_cons_zero, List.set_cons_succ]))
      (refine WG.take (i := 7) (v := ?_) rfl (by kernel_rfl) (by kernel_rfl) (by kernel_rfl) (by kernel_rfl) (fun _ _ _ h => h) (Or.inl ⟨by rfl, ?_⟩) (by assumption) ?_; rotate_left; (intro w hSw; (try dsimp only at hSw); go_split_ands; go_simp; (try with_reducible rfl)); (try simp only [Act.put, List.setIfInBounds_toArray, List.set_cons_zero, List.set_cons_succ]))
      (refine WG.take (i := 8) (v := ?_) rfl (by kernel_rfl) (by kernel_rfl) (by kernel_rfl) (by kernel_rfl) (fun _ _ _ h => h) (Or.inl ⟨by rfl, ?_⟩) (by assumption) ?_; rotate_left; (intro w hSw; (try dsimp only at hSw); go_split_ands; go_simp; (try with_reducible rfl)); (try simp only [Act.put, List.setIfInBounds_toArray, List.set_cons_zero, List.set_cons_succ]))
      (refine WG.take (i := 9) (v := ?_) rfl (by kernel_rfl) (by kernel_rfl) (by kernel_rfl) (by kernel_rfl) (fun _ _ _ h => h) (Or.inl ⟨by rfl, ?_⟩) (by assumption) ?_; rotate_left; (intro w hSw; (try dsimp only at hSw); go_split_ands; go_simp; (try with_reducible rfl)); (try simp only [Act.put, List.setIfInBounds_toArray, List.set_cons_zero, List.set_cons_succ]))
      (refine WG.take (i := 10) (v := ?_) rfl (by kernel_rfl) (by kernel_rfl) (by kernel_rfl) (by kernel_rfl) (fun _ _ _ h => h) (Or.inl ⟨by rfl, ?_⟩) (by assumption) ?_; rotate_left; (intro w hSw; (try dsimp only at hSw); go_split_ands; go_simp; (try with_reducible rfl)); (try simp only [Act.put, List.setIfInBounds_toArray, List.set_cons_zero, List.set_cons_succ]))
      (refine WG.take (i := 12) (v := ?_) rfl (by kernel_rfl) (by kernel_rfl) (by kernel_rfl) (by kernel_rfl) (fun _ _ _ h => h) (Or.inl ⟨by rfl, ?_⟩) (by assumption) ?_; rotate_left; (intro w hSw; (try dsimp only at hSw); go_split_ands; go_simp; (try with_reducible rfl)); (try simp only [Act.put, List.setIfInBounds_toArray, List.set_cons_zero, List.set_cons_succ]))
      (refine WG.take (i := 13) (v := ?_) rfl (by kernel_rfl) (by kernel_rfl) (by kernel_rfl) (by kernel_rfl) (fun _ _ _ h => h) (Or.inl ⟨by rfl, ?_⟩) (by assumption) ?_; rotate_left; (intro w hSw; (try dsimp only at hSw); go_split_ands; go_simp; (try with_reducible rfl)); (try simp only [Act.put, List.setIfInBounds_toArray, List.set_cons_zero, List.set_cons_succ]))
      refine WG.one (i := 11) rfl (by kernel_rfl) (fun K hK => ?_)
      go_simp
      refine hK.out _ _ (by exact KE.out _ (HED.out.trans (Ext.alloc _ _))) (fun hHeld => ?_)
      clear hK K
      (try simp only [Act.put, List.setIfInBounds_toArray, List.set_cons_zero, List.set_cons_succ])
      have hEA : Ext W5 (W5.drew.alloc (.cells #[] 3)) := HED.out.trans (Ext.alloc _ _)
      have HM : Hid (OI (W5.drew.alloc (.cells #[] 3)) W5.heap.size (.slice (some ⟨W5.heap.size, 0, none⟩) 0 0) []) := hid (Own.madeAt (w := W5.drew) #[] 0 _ rfl (Nat.le_refl _) (by omega) rfl)
      have HNA := hid (RI.ext HN5.out hEA)
      have HEA := hid hEA
      clear hEA
      refine WG.one (i := 14) rfl (by kernel_rfl) (fun K hK => ?_)
      refine step_append_sl _ (by rfl) _ _ 23 (by rfl) EI.ok EI.flat (W5.heap.size) 3 EI.ne i0_int _ 1 8 Try.underlying23 hi0_int hz0_int hz1_int hz2_int rfl (by omega) _ (by rfl) _ (HM.out) _ (by rfl) _ (HNA.out) (by have := HN.out.1; simp; omega) (by have := HN.out.1; simp; omega) ?_ ?_; (focus (first | exact Nat.le_refl _ | (simp; done) | (simp; omega) | omega)); intro v6 w6 hO6 hg6 hat6 hs6; rw [List.nil_append] at hO6; obtain ⟨A6, c6, rfl, _, _⟩ := hO6.form; have hE6 := Ext.grown HEA.out hg6 HM.out.lt; have HO6 := hid hO6.read; have HE6 := hid hE6; clear hO6 hg6 hat6 hs6
      refine hK.out _ _ (by exact KE.out _ HE6.out) (fun hHeld => ?_)
      clear hK K
      (try simp only [Act.put, List.setIfInBounds_toArray, List.set_cons_zero, List.set_cons_succ])
      (refine WG.take (i := 15) (v := ?_) rfl (by kernel_rfl) (by kernel_rfl) (by kernel_rfl) (by kernel_rfl) (fun _ _ _ h => h) (Or.inl ⟨by rfl, ?_⟩) (by assumption) ?_; rotate_left; (intro w hSw; (try dsimp only at hSw); go_split_ands; go_simp; (try with_reducible rfl)); (try simp only [Act.put, List.setIfInBounds_toArray, List.set_cons_zero, List.set_cons_succ]))
      refine WG.one (i := 16) rfl (by kernel_rfl) (fun K hK => ?_)
      go_simp
      refine hK.out _ _ (by exact KE.out _ (HE6.out.trans (Ext.alloc _ _))) (fun hHeld => ?_)
      clear hK K
      (try simp only [Act.put, List.setIfInBounds_toArray, List.set_cons_zero, List.set_cons_succ])
      have hE7 : Ext W5 (w6.alloc (.cells #[.int .i64 x.id, .slice A6 x.need.length c6] 64)) := HE6.out.trans (Ext.alloc _ _)
      have HT7 := hid (Own.ext ET.ok HTV.out hE7)
      have HO7 := hid (Own.ext (EUV.ok _) HO5.out hE7)
      have HB7 := hid (Below.trans HB5.out (hE7.mono (by have := HB5.out.size; omega)))
      have HE7 := hid hE7
      have HR7 := hid (RI.ext HR5.out hE7)
      have hz7 := hE7.size
      have HUT : Hid (u.tasks.length ≤ 900) := hid (clusOk_unit HC.out (List.mem_of_getElem? ex.out)).1.1
      have hzw := HB7.out.size
      clear hE7
      refine WG.one (i := 17) rfl (by kernel_rfl) (fun K hK => ?_)
      refine step_append_sl _ (by rfl) _ _ 54 (by rfl) ET.ok ET.flat (base) 64 ET.ne i0_task _ 2 32 Try.underlying54 hi0_task hz0_task hz1_task hz2_task rfl (by omega) _ (by rfl) _ (HT7.out) _ (by rfl) _ (RSl.laid (cs := [.int .i64 x.id, .slice A6 x.need.length c6]) (heap_alloc_new _ _) rfl ⟨_, rfl, RI.ext HO6.out (Ext.alloc _ _)⟩) (by have := HUT.out; simp; omega) (by have := HUT.out; simp; omega) ?_ ?_; (focus (first | exact Nat.le_refl _ | (simp; done) | (simp; omega) | omega)); intro v8 w8 hO8 hg8 hat8 hs8; obtain ⟨A8, c8, rfl, _, _⟩ := hO8.form_app; have HO8 := hid hO8; have HG8 := hid hg8; have HAT8 := hid hat8; have HS8 := hid hs8; clear hO8 hg8 hat8 hs8
      refine hK.out _ _ (by exact KS.out _ ((HS8.out _ _ _ _ (by decide) (HE7.out.obj HC5.out)).trans HC5.out.symm) ((HG8.out.block _ (by omega) (fun e => by have := HTW.out _ e.symm; omega)).trans (HE7.out.block _ (by omega))) ((HG8.out.block _ (Nat.lt_of_lt_of_le HGZ.out HE7.out.size) (fun e => Own.block_ne (by decide) HT7.out HO7.out e.symm rfl)).trans (HE7.out.block _ HGZ.out))) (fun hHeld => ?_)
      clear hK K
      (try simp only [Act.put, List.setIfInBounds_toArray, List.set_cons_zero, List.set_cons_succ])
      (refine WG.take (i := 18) (v := ?_) rfl (by kernel_rfl) (by kernel_rfl) (by kernel_rfl) (by kernel_rfl) (fun _ _ _ h => h) (Or.inl ⟨by rfl, ?_⟩) (by assumption) ?_; rotate_left; (intro w hSw; (try dsimp only at hSw); go_split_ands; go_simp; (try with_reducible rfl)); (try simp only [Act.put, List.setIfInBounds_toArray, List.set_cons_zero, List.set_cons_succ]))
      (refine WG.take (i := 19) (v := ?_) rfl (by kernel_rfl) (by kernel_rfl) (by kernel_rfl) (by kernel_rfl) (fun _ _ _ h => h) (Or.inl ⟨by rfl, ?_⟩) (by assumption) ?_; rotate_left; (intro w hSw; (try dsimp only at hSw); go_split_ands; go_simp; (try with_reducible rfl)); (try simp only [Act.put, List.setIfInBounds_toArray, List.set_cons_zero, List.set_cons_succ]))
      have hgrow := OUV.grow HO7.out HND5.out HPK5.out HG8.out HS8.out HO8.out
      have hblk : w8.heap[gu]? = W5.heap[gu]? := (HG8.out.block _ (Nat.lt_of_lt_of_le HGZ.out HE7.out.size) (fun e => Own.block_ne (by decide) HT7.out HO7.out e.symm rfl)).trans (HE7.out.block _ HGZ.out)
      have cx8 := (World.cell?_of_block (w := W5) (a := ⟨gu, k * 2 + 1, none⟩) hblk).trans HD1.out
      have fx8 := obj_frozen (hblk.trans HU5.out) (k * 2 + 1)
      have HGROW := hid hgrow
      clear hgrow hblk
      refine WG.last (i := 20) rfl (by kernel_rfl) (by kernel_rfl) (fun K hK => ?_)
      go_simp
      refine hK.out _ _ ?_
      clear hK K
      (try simp only [Act.put, List.setIfInBounds_toArray, List.set_cons_zero, List.set_cons_succ])
      refine WG.done (by kernel_rfl) ?_
      have P9 := obj_far (HS8.out _ _ _ _ (by decide) (HE7.out.obj HZ5.out)) (p := ⟨gu, k * 2 + 1, none⟩) (by show w.heap.size + 2 ≠ gu; omega) (.slice A8 (u.tasks.length + 1) c8)
      have Q9 := obj_far (HS8.out _ _ _ _ (by decide) (HE7.out.obj HC5.out)) (p := ⟨gu, k * 2 + 1, none⟩) (by show w.heap.size ≠ gu; omega) (.slice A8 (u.tasks.length + 1) c8)
      obtain ⟨e0, e1, y0, y1, y0f, y1f, k1, k1f, r0, r1, hsm⟩ := res2 P9 Q9
      have HSM := hid hsm
      clear P9 Q9 hsm
      go_wp2
      refine bodyPost_ret (v := .tuple #[.agg #[.slice Ar C.room.length cr, .slice (some ⟨gu, 0, none⟩) ps.length cu], .int .i64 0]) (by simp [results, Try.results90, go_sem, r0, r1]) rfl ?_
      rw [HA.out]
      have hB8 : Below base w w8 := Below.grown HB7.out HG8.out (by omega) (fun a ha => (Own.lt HT7.out a ha).1)
      exact ⟨_, rfl, ⟨_, _, qs.set k (⟨true, u.tasks ++ [x]⟩, _), rfl, RI.same (RI.same (RI.same HR7.out (HS8.out.mono (by rintro t rfl; decide))) (HGROW.out.2.mono (by rintro t rfl; decide))) (HSM.out _ (by rintro t rfl; decide)), Own.same (EUV.ok _) HGROW.out.1 (HSM.out _ notClu), by rw [List.map_set, HMAP.out, List.set_set], nodup_app HND5.out HPK5.out HAT8.out (fun g hg => by have := HLT5.out g hg; omega)⟩, Below.setCell (Below.setCell (Below.setCell hB8 hgu _) (by show base ≤ w.heap.size + 2; omega) _) (by show base ≤ w.heap.size + 2; omega) _⟩

end Go.Proofs.Ytfgibhdglbjadaa
