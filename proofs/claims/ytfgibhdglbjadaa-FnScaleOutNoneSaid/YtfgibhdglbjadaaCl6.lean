/- The reference takes a task out of nodes: the walk. -/
import Derived.Test.YtfgibhdglbjadaaCl5
namespace Go.Proofs.Ytfgibhdglbjadaa
open Go.RowKit
set_option maxRecDepth 4000

set_option maxHeartbeats 4000000 in
theorem sTake (v : Value) (bs : List (List TaskD)) (id : Int) (w : World) (h : RB w v bs) (hl : bs.length ≤ 4000000) (hb : ∀ b ∈ bs, b.length ≤ 4000000) :
    Calls Try.prog 138 #[v, .int .i64 id] w fun e w' => ∃ bv ps A c, e = .returned (.tuple #[bv, .agg #[.int .i64 (lastL id bs.flatten).id, .slice A (lastL id bs.flatten).need.length c]]) ∧
      OBV w' (w.heap.size + 1) bv ps ∧ ps.map (·.1) = bs.map (takeL id) ∧ (blocksOfB ps).Nodup ∧ RI w' (.slice A (lastL id bs.flatten).need.length c) (lastL id bs.flatten).need ∧ Ext w w' := by
  obtain ⟨A, c, rfl, hc, hc', hr⟩ := RB.get h
  clear h
  obtain ⟨i0_task, hi0_task, hz0_task, hz1_task, hz2_task⟩ := info_parts info_task
  obtain ⟨i0_bin, hi0_bin, hz0_bin, hz1_bin, hz2_bin⟩ := info_parts info_bin
  go_enter Try.func138, Try.ntmps138
  go_wp2
  go_loopw [6, 8] (fun o i wr => ∃ (u : Value) (k : Nat) (ps : List (List TaskD × Value)) (Ax : Option Addr) (cx : Nat), u = o ∧ k ≤ bs.length ∧ i = .int .i64 k ∧ Hid (TS id w wr u ps (bs.take k) (lastL id (bs.take k).flatten) Ax cx)) (fun _ i _ => bs.length - (intOf i).toNat)
  case atStart =>
    refine ⟨_, 0, [], none, 0, rfl, Nat.zero_le _, rfl, hid ⟨?_, rfl, List.nodup_nil, fun g hg => by simp [blocksOfB] at hg, fun g hg => ?_, heap_new (by simp), RSl.nil_ _ _ _ _ _ _ (by omega), ?_, ?_⟩⟩
    · exact (Own.madeAt (w := w.alloc (.cells #[.int .i64 0, .slice none 0 0] 64)) #[] 0 (w.heap.size + 1) (by simp) (Nat.le_refl _) (by omega) rfl).ext (EBV.ok _) (Ext.alloc _ _)
    · simp [Value.ownBlock] at hg; omega
    · exact (Ext.alloc _ _).obj ((Ext.alloc _ _).obj (heap_alloc_new w _))
    · exact ((Ext.alloc _ _).trans (Ext.alloc _ _)).trans (Ext.alloc _ _)
  case round =>
    obtain ⟨u, k, ps, Ax, cx, hou, hk, rfl, H⟩ := hrel
    subst hou
    by_cases hlt : k < bs.length
    · obtain ⟨b, o, bin, An, cn, rfl, e, c1, hbin⟩ := hr k hlt
      obtain ⟨A2, c2, hv2, _, _, hgt⟩ := RT.get hbin
      injection hv2 with ea _ ec
      subst ea ec
      have i1 : (k : Int) < (bs.length : Int) := by omega
      have c1r := H.out.ext.cell c1
      have HBL := hid (hb bin (List.mem_of_getElem? e.out))
      go_wp2
      go_loopw [9, 10] (fun b9 j w2 => ∃ (v9 : Value) (m : Nat) (Ay : Option Addr) (cy : Nat), v9 = b9 ∧ m ≤ bin.length ∧ j = .int .i64 m ∧ Hid (TS id w w2 u ps (bs.take k) (lastL id ((bs.take k).flatten ++ bin.take m)) Ay cy ∧ TB id w w2 v9 (bin.take m) ps)) (fun _ j _ => bin.length - (intOf j).toNat)
      case atStart =>
        refine ⟨_, 0, Ax, cx, rfl, Nat.zero_le _, rfl, hid ⟨by rw [List.take_zero, List.append_nil]; exact H.out.ext_ (Ext.alloc _ _), ⟨Own.madeAt #[] 0 _ rfl (by have := H.out.size; omega) (by omega) rfl, fun g hg => ?_⟩⟩⟩
        have hge : g = wr.heap.size := by simp [Value.ownBlock] at hg; exact hg.symm
        exact ⟨by have := H.out.size; omega, fun hm => by have := (OBV.lt H.out.own g hm).2; omega⟩
      case round =>
        obtain ⟨v9, m, Ay, cy, hv9, hm, rfl, HH⟩ := hrel
        subst hv9
        by_cases hmt : m < bin.length
        · obtain ⟨b2, o2, x, Anx, cnx, rfl, e2, d1, d2, hnx⟩ := hgt m hmt
          have j1 : (m : Int) < (bin.length : Int) := by omega
          have c1x := HH.out.1.ext.cell c1
          have d1x := HH.out.1.ext.cell d1
          have d2x := HH.out.1.ext.cell d2
          have HNX := hid (RI.ext hnx HH.out.1.ext)
          by_cases h3 : (x.id == id) = true
          · have q0 := obj_cell HH.out.1.box (i := 0) rfl
            have q1 := obj_cell HH.out.1.box (i := 1) rfl
            have f0 := obj_frozen HH.out.1.box 0
            have f1 := obj_frozen HH.out.1.box 1
            have kk := obj_set HH.out.1.box 0 (.int .i64 x.id)
            have k1 := obj_cell kk (i := 1) rfl
            have k1f := obj_frozen kk 1
            clear kk d1 d2 hnx
            go_wp2
            go_roundw
            case rel =>
              have hb2 := TB.store (y := x) (Am := Anx) (cm := cnx) HH.out.1 HH.out.2
              exact ⟨_, m + 1, Anx, cnx, rfl, by omega, by go_num, hid ⟨by rw [take_snoc e2.out, ← List.append_assoc, lastL_snoc, if_pos h3]; exact TS.store HH.out.1 HNX.out, ⟨by rw [take_snoc e2.out, takeL_snoc, if_pos h3]; exact hb2.own, hb2.hi⟩⟩⟩
            case measure => simp [intOf]; omega
          · have h3 : (x.id == id) = false := by simpa using h3
            have HB2 := hid (HH.out.2.ext_ (Ext.alloc wr (.cells #[.int .i64 x.id, .slice Anx x.need.length cnx] 64)))
            have HT2 := hid (HH.out.1.ext_ (Ext.alloc wr (.cells #[.int .i64 x.id, .slice Anx x.need.length cnx] 64)))
            have HLT : Hid ((takeL id (bin.take m)).length ≤ 4000000) := hid (Nat.le_trans (List.length_filter_le _ _) (Nat.le_trans (List.length_take_le' m bin) HBL.out))
            have hz2 := HH.out.1.size
            clear d1 d2 hnx
            go_wp2_with (at_builtin; refine wpList_append_sl _ (by rfl) _ _ 54 (by rfl) ET.ok ET.flat (w.heap.size + 1) 64 ET.ne i0_task _ 2 32 Try.underlying54 hi0_task hz0_task hz1_task hz2_task rfl (by omega) _ (by rfl) _ (HB2.out.own) _ (by rfl) _ (RSl.laid (cs := [.int .i64 x.id, .slice Anx x.need.length cnx]) (heap_alloc_new _ _) rfl ⟨_, rfl, RI.ext HNX.out (Ext.alloc _ _)⟩) (by have := HLT.out; simp; omega) (by have := HLT.out; simp; omega) ?_ ?_; (focus (first | exact Nat.le_refl _ | (simp; done) | (simp; omega) | omega)); intro v10 w3 hO hg hat hs; have HO := hid hO; have HG := hid hg; have HAT := hid hat; have HS := hid hs; clear hO hg hat hs)
            go_roundw
            case rel =>
              refine ⟨_, m + 1, Ay, cy, rfl, by omega, by go_num, hid ⟨?_, ⟨?_, fun g hgg => ?_⟩⟩⟩
              · rw [take_snoc e2.out, ← List.append_assoc, lastL_snoc, h3]
                exact TS.grown HT2.out HB2.out HG.out HS.out
              · rw [take_snoc e2.out, takeL_snoc, h3]
                exact HO.out
              · rcases HAT.out with ha | ha
                · exact HB2.out.hi g (by rw [← ha]; exact hgg)
                · rw [ha] at hgg
                  have hge : g = wr.heap.size + 1 := by injection hgg with hgg; rw [← hgg]; simp
                  exact ⟨by omega, fun hm => by have := (OBV.lt HH.out.1.own g hm).2; omega⟩
            case measure => simp [intOf]; omega
        · have hm' : m = bin.length := by omega
          have j1 : ¬ (m : Int) < (bin.length : Int) := by omega
          have c1x := HH.out.1.ext.cell c1
          have HH1 := HH.out.1
          have HH2 := HH.out.2
          rw [hm', List.take_length] at HH1 HH2
          obtain ⟨A9, c9, rfl, _, _⟩ := HH2.own.form
          have HB2 := hid (HH2.ext_ (Ext.alloc wr (.cells #[.slice A9 (takeL id bin).length c9] 54)))
          have HT2 := hid (HH1.ext_ (Ext.alloc wr (.cells #[.slice A9 (takeL id bin).length c9] 54)))
          have HPL : Hid (ps.length ≤ 4000000) := hid (by have := congrArg List.length HH1.map; simp at this; omega)
          have hz2 := HH1.size
          clear HH1 HH2
          go_wp2_with (at_builtin; refine wpList_append_sl _ (by rfl) _ _ 69 (by rfl) (EBV.ok _) (EBV.flat _) (w.heap.size + 1) 54 EBV.ne i0_bin _ 1 24 Try.underlying69 hi0_bin hz0_bin hz1_bin hz2_bin rfl (by omega) _ (by rfl) _ (HT2.out.own) _ (by rfl) _ (RSl.laid (cs := [.slice A9 (takeL id bin).length c9]) (x := (takeL id bin, .slice A9 (takeL id bin).length c9)) (heap_alloc_new _ _) rfl ⟨rfl, HB2.out.own⟩) (by have := HPL.out; simp; omega) (by have := HPL.out; simp; omega) ?_ ?_; (focus (first | exact Nat.le_refl _ | (simp; done) | (simp; omega) | omega)); intro v4 w4 hO hg hat hs; have HO := hid hO; have HG := hid hg; have HAT := hid hat; have HS := hid hs; clear hO hg hat hs)
          go_roundw
          case rel =>
            refine ⟨_, k + 1, ps ++ [(takeL id bin, .slice A9 (takeL id bin).length c9)], Ay, cy, rfl, by omega, by go_num, hid ?_⟩
            rw [flatten_take_succ e.out]
            refine ⟨HO.out, ?_, ?_, ?_, ?_, HS.out _ _ _ _ (by decide) HT2.out.box, RI.same HT2.out.rd (HS.out.mono (by rintro t rfl; decide)), HS.out _ _ _ _ (by decide) HT2.out.zero, Ext.grown HT2.out.ext HG.out (fun q hq => by have := Own.lt HT2.out.own q hq; exact ⟨by omega, this.2⟩)⟩
            · rw [List.map_append, HT2.out.map, take_snoc e.out, List.map_append]; rfl
            · unfold blocksOfB
              rw [List.filterMap_append]
              refine List.nodup_append.2 ⟨HT2.out.nd, ?_, ?_⟩
              · cases A9 <;> simp [Value.ownBlock]
              · intro a ha b' hb' hab
                subst hab
                have h1 : Value.ownBlock (.slice A9 (takeL id bin).length c9) = some a := by
                  simp only [List.filterMap_cons, List.filterMap_nil] at hb'
                  split at hb'
                  · simp at hb'
                  · rename_i heq
                    simp at hb'
                    rw [heq, hb']
                exact (HB2.out.hi a h1).2 ha
            · intro g hg
              unfold blocksOfB at hg
              rw [List.filterMap_append, List.mem_append] at hg
              rcases hg with hg | hg
              · exact HT2.out.hi g hg
              · obtain ⟨q, hq, hq2⟩ := List.mem_filterMap.1 hg
                simp at hq
                subst hq
                exact (HB2.out.hi g hq2).1
            · intro g hg
              rcases HAT.out with ha | ha
              · exact HT2.out.row g (by rw [← ha]; exact hg)
              · rw [ha] at hg
                injection hg with hg
                have : g = wr.heap.size + 1 := by rw [← hg]; simp
                omega
          case measure => simp [intOf]; omega
    · have hk' : k = bs.length := by omega
      have i1 : ¬ (k : Int) < (bs.length : Int) := by omega
      obtain ⟨Au, cu, rfl, _, _⟩ := H.out.own.form
      have HF : Hid (TS id w wr (.slice Au ps.length cu) ps bs (lastL id bs.flatten) Ax cx) := hid (by have hh := H.out; rw [hk', List.take_length] at hh; exact hh)
      clear hk' H
      obtain ⟨e0, e1, y0, y1, y0f, y1f, k1, k1f, r0, r1, _⟩ := res2 HF.out.zero HF.out.box
      have KS := hid (And.intro e0 e1)
      go_wp2
      refine WG.start (fun w' => w'.cell? ⟨w.heap.size + 2, 0, none⟩ = some (.int .i64 (lastL id bs.flatten).id) ∧ w'.cell? ⟨w.heap.size + 2, 1, none⟩ = some (.slice Ax (lastL id bs.flatten).need.length cx)) [3] (by kernel_rfl) (by exact KS.out) (fun hHeld => ?_)
      (refine WG.take (i := 0) (v := ?_) rfl (by kernel_rfl) (by kernel_rfl) (by kernel_rfl) (by kernel_rfl) (fun _ _ _ h => h) (Or.inl ⟨by rfl, ?_⟩) (by assumption) ?_; rotate_left; (intro w hSw; (try dsimp only at hSw); go_split_ands; go_simp; (try with_reducible rfl)); (try simp only [Act.put, List.setIfInBounds_toArray, List.set_cons_zero, List.set_cons_succ]))
      (refine WG.take (i := 1) (v := ?_) rfl (by kernel_rfl) (by kernel_rfl) (by kernel_rfl) (by kernel_rfl) (fun _ _ _ h => h) (Or.inl ⟨by rfl, ?_⟩) (by assumption) ?_; rotate_left; (intro w hSw; (try dsimp only at hSw); go_split_ands; go_simp; (try with_reducible rfl)); (try simp only [Act.put, List.setIfInBounds_toArray, List.set_cons_zero, List.set_cons_succ]))
      refine WG.one (i := 2) rfl (by kernel_rfl) (fun K hK => ?_)
      go_simp
      refine hK.out _ _ (by exact KS.out) (fun hHeld => ?_)
      clear hK K
      (try simp only [Act.put, List.setIfInBounds_toArray, List.set_cons_zero, List.set_cons_succ])
      refine WG.last (i := 3) rfl (by kernel_rfl) (by kernel_rfl) (fun K hK => ?_)
      go_simp
      refine hK.out _ _ ?_
      clear hK K
      (try simp only [Act.put, List.setIfInBounds_toArray, List.set_cons_zero, List.set_cons_succ])
      refine WG.done (by kernel_rfl) ?_
      go_wp2
      have hh : ∀ j, j ≠ w.heap.size → ((wr.setCell ⟨w.heap.size, 0, none⟩ (.int .i64 (lastL id bs.flatten).id)).setCell ⟨w.heap.size, 1, none⟩ (.slice Ax (lastL id bs.flatten).need.length cx)).drew.heap[j]? = wr.heap[j]? := fun j hj => (Below.heap_setCell _ _ _ _ hj).trans (Below.heap_setCell _ _ _ _ hj)
      have hs : SameT (fun t => t = 3) wr ((wr.setCell ⟨w.heap.size, 0, none⟩ (.int .i64 (lastL id bs.flatten).id)).setCell ⟨w.heap.size, 1, none⟩ (.slice Ax (lastL id bs.flatten).need.length cx)).drew :=
        (SameT.setCell (p := ⟨w.heap.size, 0, none⟩) HF.out.zero _ (by rintro t rfl; decide)).trans (SameT.setCell (p := ⟨w.heap.size, 1, none⟩) (obj_set HF.out.zero 0 _) _ (by rintro t rfl; decide))
      have h1 := OBV.far HF.out.own (fun j hj => hh j (by have := (Own.lt HF.out.own j hj).1; omega)) (fun g hg => hh g (by have := (OBV.lt HF.out.own g hg).1; omega)) hs
      have h2 := RI.same HF.out.rd hs
      have h3 : Ext w ((wr.setCell ⟨w.heap.size, 0, none⟩ (.int .i64 (lastL id bs.flatten).id)).setCell ⟨w.heap.size, 1, none⟩ (.slice Ax (lastL id bs.flatten).need.length cx)).drew := Below.drew (Below.setCell (Below.setCell HF.out.ext (Nat.le_refl _) _) (Nat.le_refl _) _)
      exact (bodyPost_ret (v := .tuple #[.slice Au ps.length cu, .agg #[.int .i64 (lastL id bs.flatten).id, .slice Ax (lastL id bs.flatten).need.length cx]]) (by simp [results, Try.results138, go_sem, r0, r1]) rfl ⟨_, ps, Ax, cx, rfl, h1, HF.out.map, HF.out.nd, h2, h3⟩)

end Go.Proofs.Ytfgibhdglbjadaa
