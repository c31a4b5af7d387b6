/- The law FnBytesSum. -/
import Derived.Test.YtfgibhdglbjadaaK19
import Derived.Test.YtfgibhdglbjadaaK20
namespace Go.Proofs.Ytfgibhdglbjadaa
open Go.RowKit
set_option maxRecDepth 4000

set_option maxHeartbeats 8000000 in
theorem lawBytesSum (v : Value) (bs : List Int) (w : World) (h : XBy w v bs) :
    Calls Try.prog 6 #[v] w (RetB w true) := by
  have HB := hid h
  obtain ⟨A, c, rfl, _⟩ := h
  by_cases h1 : bs.length ≤ 1048576
  · have i1 : ¬ (1048576 : Int) < (bs.length : Int) := by omega
    go_enter Try.func6, Try.ntmps6
    go_wp2_with (go_at_call 33; refine (dDrawBytes _ bs _ HB.out (by omega)).mono ?_; rintro e w1 ⟨cv, C, rfl, hO, hS, hE⟩; obtain ⟨Ar, cr, Au, cu, rfl⟩ := hO.form; have HC := hid hO.read; have HS := hid hS; have HE := hid hE; obtain ⟨y0, y1, y0f, y1f, k1, k1f, hkk, _⟩ := box2 (heap_alloc_new w1 (.cells #[.slice none 0 0, .slice none 0 0] 26)) (.slice Ar C.room.length cr) (.slice Au C.units.length cu); clear hkk hO hS hE)
    obtain ⟨W, hW⟩ : ∃ W, W = w1.alloc (.cells #[.slice Ar C.room.length cr, .slice Au C.units.length cu] 26) := ⟨_, rfl⟩
    have hEW : Ext w1 W := by rw [hW]; exact Ext.alloc _ _
    have hbx : W.heap[w1.heap.size]? = some (.cells #[.slice Ar C.room.length cr, .slice Au C.units.length cu] 26 (0, 0)) := by rw [hW]; exact heap_alloc_new _ _
    have KB : Hid (∀ w', Ext W w' → w'.cell? ⟨w1.heap.size, 0, none⟩ = some (.slice Ar C.room.length cr) ∧ w'.cell? ⟨w1.heap.size, 1, none⟩ = some (.slice Au C.units.length cu)) := hid fun w' hw => ⟨obj_cell (hw.obj hbx) (i := 0) rfl, obj_cell (hw.obj hbx) (i := 1) rfl⟩
    have hb0 := obj_cell hbx (i := 0) rfl
    have hb1 := obj_cell hbx (i := 1) rfl
    have HEW := hid (HE.out.trans hEW)
    have HO1 := hid (HC.out.ext hEW)
    rw [← hW]
    clear hW y0 y1 y0f y1f k1 k1f hEW hbx
    by_cases hv : clusOk C = true
    · obtain ⟨m, hm⟩ : ∃ m, m = (bodyB C).length := ⟨_, rfl⟩
      have HBL : Hid ((bodyB C).length = m) := hid hm.symm
      have hmv : m = 3 + 2 * C.units.length + 4 * manyN C := by rw [hm]; exact bytes_len hv
      have hu10 := (clusOk_len hv).2
      have hn14 := manyN_le hv
      obtain ⟨sm, hsm⟩ : ∃ sm, sm = sumB (bodyB C) := ⟨_, rfl⟩
      have HSM : Hid (sumB (bodyB C) = sm) := hid hsm.symm
      have HAT : Hid ((bytesC C)[m]? = some sm ∧ (bytesC C).take m = bodyB C ∧ m ≤ (bytesC C).length) := hid (by
        unfold bytesC
        rw [hm, hsm]
        exact ⟨by rw [List.getElem?_append_right (Nat.le_refl _), Nat.sub_self]; rfl, List.take_left, by rw [List.length_append]; omega⟩)
      have HMV := hid hmv
      have HU := hid hu10
      have HN := hid hn14
      have hmb : m ≤ 200 := by omega
      have im0 : (0 : Int) ≤ (m : Int) := by omega
      have im1 : (m : Int) ≤ (m : Int) + 1 := by omega
      have im2 : (m : Int) < (m : Int) + 1 := by omega
      clear hm hsm hmv hu10 hn14
      go_wp2_with (first
        | (go_at_call 34; refine (lSameInts _ _ (bytesC C) _ (RI.ext (RI.clip HO2.out.read) HE3.out) HO3.out).mono ?_; rintro e w4 ⟨rfl, hE4⟩; obtain ⟨hb0, hb1⟩ := KB.out _ (HE2.out.trans (HE3.out.trans hE4)); have HE4 := hid hE4; clear hE4)
        | (go_at_call 22; refine (sClusterBytes _ C _ (HO1.out.ext HE2.out) HS.out.len HS.out.flat).mono ?_; rintro e w3 ⟨v3, rfl, hO3, hE3⟩; rw [hv]; rw [if_pos hv] at hO3; obtain ⟨hb0, hb1⟩ := KB.out _ (HE2.out.trans hE3); have HO3 := hid hO3.read; have HE3 := hid hE3; clear hO3 hE3)
        | (go_at_call 24; refine (iClusterBytes _ C _ HO1.out HS.out.len HS.out.flat HS.out.ids).mono ?_; rintro e w2 ⟨hh, _⟩; obtain ⟨g2, c2, rfl, hO2, hE2⟩ := hh hv; rw [HBL.out] at hO2 ⊢; obtain ⟨hb0, hb1⟩ := KB.out _ hE2; have HO2 := hid hO2; have HE2 := hid hE2; clear hO2 hE2 hh))
      have q0 := (HE3.out.trans HE4.out).cell (OI.at_ HO2.out HAT.out.1).1
      have hq4 := HE2.out.trans (HE3.out.trans HE4.out)
      have KH : Hid (∀ w', Ext w4 w' → w'.cell? ⟨w1.heap.size, 0, none⟩ = some (.slice Ar C.room.length cr) ∧ w'.cell? ⟨w1.heap.size, 1, none⟩ = some (.slice Au C.units.length cu) ∧ w'.cell? ⟨g2, m, none⟩ = some (.int .i64 sm)) := hid fun w' hw => ⟨(KB.out _ (hq4.trans hw)).1, (KB.out _ (hq4.trans hw)).2, hw.cell q0⟩
      have HQ4 := hid hq4
      clear q0 hq4
      have w1' : IntKind.i64.wrap (2 * (C.units.length : Int)) = 2 * (C.units.length : Int) := IntWalk.i64_in _ (by have := HU.out; omega)
      have w2' : IntKind.i64.wrap (4 + 2 * (C.units.length : Int)) = 4 + 2 * (C.units.length : Int) := IntWalk.i64_in _ (by have := HU.out; omega)
      have w3' : IntKind.i64.wrap (4 * (manyN C : Int)) = 4 * (manyN C : Int) := IntWalk.i64_in _ (by have := HN.out; omega)
      have w4' : IntKind.i64.wrap (4 + 2 * (C.units.length : Int) + 4 * (manyN C : Int)) = 4 + 2 * (C.units.length : Int) + 4 * (manyN C : Int) := IntWalk.i64_in _ (by have := HU.out; have := HN.out; omega)
      have e1 : ((m : Int) + 1 == 4 + 2 * (C.units.length : Int) + 4 * (manyN C : Int)) = true := by have := HMV.out; simp; omega
      have e2 : (sm == sm) = true := by simp
      refine WG.start (fun w' => w'.cell? ⟨w1.heap.size, 0, none⟩ = some (.slice Ar C.room.length cr) ∧ w'.cell? ⟨w1.heap.size, 1, none⟩ = some (.slice Au C.units.length cu) ∧ w'.cell? ⟨g2, m, none⟩ = some (.int .i64 sm)) [29] (by kernel_rfl) (by exact KH.out _ (Below.drew (Below.refl _ _))) (fun hHeld => ?_)
      (refine WG.take (i := 0) (v := ?_) rfl (by kernel_rfl) (by kernel_rfl) (by kernel_rfl) (by kernel_rfl) (fun _ _ _ h => h) (Or.inl ⟨by rfl, ?_⟩) (by assumption) ?_; rotate_left; (intro w hSw; (try dsimp only at hSw); go_split_ands; go_simp; (try with_reducible rfl)); (try simp only [Act.put, List.setIfInBounds_toArray, List.set_cons_zero, List.set_cons_succ]))
      (refine WG.take (i := 1) (v := ?_) rfl (by kernel_rfl) (by kernel_rfl) (by kernel_rfl) (by kernel_rfl) (fun _ _ _ h => h) (Or.inl ⟨by rfl, ?_⟩) (by assumption) ?_; rotate_left; (intro w hSw; (try dsimp only at hSw); go_split_ands; go_simp; (try with_reducible rfl)); (try simp only [Act.put, List.setIfInBounds_toArray, List.set_cons_zero, List.set_cons_succ]))
      (refine WG.take (i := 2) (v := ?_) rfl (by kernel_rfl) (by kernel_rfl) (by kernel_rfl) (by kernel_rfl) (fun _ _ _ h => h) (Or.inl ⟨by rfl, ?_⟩) (by assumption) ?_; rotate_left; (intro w hSw; (try dsimp only at hSw); go_split_ands; go_simp; (try with_reducible rfl)); (try simp only [Act.put, List.setIfInBounds_toArray, List.set_cons_zero, List.set_cons_succ]))
      (refine WG.take (i := 3) (v := ?_) rfl (by kernel_rfl) (by kernel_rfl) (by kernel_rfl) (by kernel_rfl) (fun _ _ _ h => h) (Or.inl ⟨by rfl, ?_⟩) (by assumption) ?_; rotate_left; (intro w hSw; (try dsimp only at hSw); go_split_ands; go_simp; (try with_reducible rfl)); (try simp only [Act.put, List.setIfInBounds_toArray, List.set_cons_zero, List.set_cons_succ]))
      (refine WG.take (i := 4) (v := ?_) rfl (by kernel_rfl) (by kernel_rfl) (by kernel_rfl) (by kernel_rfl) (fun _ _ _ h => h) (Or.inl ⟨by rfl, ?_⟩) (by assumption) ?_; rotate_left; (intro w hSw; (try dsimp only at hSw); go_split_ands; go_simp; (try with_reducible rfl)); (try simp only [Act.put, List.setIfInBounds_toArray, List.set_cons_zero, List.set_cons_succ]))
      (refine WG.take (i := 5) (v := ?_) rfl (by kernel_rfl) (by kernel_rfl) (by kernel_rfl) (by kernel_rfl) (fun _ _ _ h => h) (Or.inl ⟨by rfl, ?_⟩) (by assumption) ?_; rotate_left; (intro w hSw; (try dsimp only at hSw); go_split_ands; go_simp; (try with_reducible rfl)); (try simp only [Act.put, List.setIfInBounds_toArray, List.set_cons_zero, List.set_cons_succ]))
      (refine WG.take (i := 7) (v := ?_) rfl (by kernel_rfl) (by kernel_rfl) (by kernel_rfl) (by kernel_rfl) (fun _ _ _ h => h) (Or.inl ⟨by rfl, ?_⟩) (by assumption) ?_; rotate_left; (intro w hSw; (try dsimp only at hSw); go_split_ands; go_simp; (try with_reducible rfl)); (try simp only [Act.put, List.setIfInBounds_toArray, List.set_cons_zero, List.set_cons_succ]))
      (refine WG.take (i := 8) (v := ?_) rfl (by kernel_rfl) (by kernel_rfl) (by kernel_rfl) (by kernel_rfl) (fun _ _ _ h => h) (Or.inl ⟨by rfl, ?_⟩) (by assumption) ?_; rotate_left; (intro w hSw; (try dsimp only at hSw); go_split_ands; go_simp; (try with_reducible rfl)); (try simp only [Act.put, List.setIfInBounds_toArray, List.set_cons_zero, List.set_cons_succ]))
      (refine WG.take (i := 9) (v := ?_) rfl (by kernel_rfl) (by kernel_rfl) (by kernel_rfl) (by kernel_rfl) (fun _ _ _ h => h) (Or.inl ⟨by rfl, ?_⟩) (by assumption) ?_; rotate_left; (intro w hSw; (try dsimp only at hSw); go_split_ands; go_simp; (try with_reducible rfl)); (try simp only [Act.put, List.setIfInBounds_toArray, List.set_cons_zero, List.set_cons_succ]))
      (refine WG.take (i := 10) (v := ?_) rfl (by kernel_rfl) (by kernel_rfl) (by kernel_rfl) (by kernel_rfl) (fun _ _ _ h => h) (Or.inl ⟨by rfl, ?_⟩) (by assumption) ?_; rotate_left; (intro w hSw; (try dsimp only at hSw); go_split_ands; go_simp; (try with_reducible rfl)); (try simp only [Act.put, List.setIfInBounds_toArray, List.set_cons_zero, List.set_cons_succ]))
      refine WG.one (i := 6) rfl (by kernel_rfl) (fun K hK => ?_)
      go_simp
      refine (iClusterSum _ ((bytesC C).take m) _ (RI.ext (RSl.head_ (RI.clip HO2.out.read) HAT.out.2.2) (HE3.out.trans (HE4.out.trans (Below.drew (Below.refl _ _)))))).mono ?_
      rintro e w6 ⟨rfl, hE6⟩
      rw [HAT.out.2.1, HSM.out]
      have HF6 : Hid (Ext w4 w6) := hid (Ext.trans (Below.drew (Below.refl _ _)) hE6)
      clear hE6
      (try dsimp only)
      refine hK.out _ _ (by exact KH.out _ HF6.out) (fun hHeld => ?_)
      clear hK K
      (try simp only [Act.put, List.setIfInBounds_toArray, List.set_cons_zero, List.set_cons_succ])
      (refine WG.take (i := 11) (v := ?_) rfl (by kernel_rfl) (by kernel_rfl) (by kernel_rfl) (by kernel_rfl) (fun _ _ _ h => h) (Or.inl ⟨by rfl, ?_⟩) (by assumption) ?_; rotate_left; (intro w hSw; (try dsimp only at hSw); go_split_ands; go_simp; (try with_reducible rfl)); (try simp only [Act.put, List.setIfInBounds_toArray, List.set_cons_zero, List.set_cons_succ]))
      (refine WG.take (i := 12) (v := ?_) rfl (by kernel_rfl) (by kernel_rfl) (by kernel_rfl) (by kernel_rfl) (fun _ _ _ h => h) (Or.inl ⟨by rfl, ?_⟩) (by assumption) ?_; rotate_left; (intro w hSw; (try dsimp only at hSw); go_split_ands; go_simp; (try with_reducible rfl)); (try simp only [Act.put, List.setIfInBounds_toArray, List.set_cons_zero, List.set_cons_succ]))
      (refine WG.take (i := 13) (v := ?_) rfl (by kernel_rfl) (by kernel_rfl) (by kernel_rfl) (by kernel_rfl) (fun _ _ _ h => h) (Or.inl ⟨by rfl, ?_⟩) (by assumption) ?_; rotate_left; (intro w hSw; (try dsimp only at hSw); go_split_ands; go_simp; (try with_reducible rfl)); (try simp only [Act.put, List.setIfInBounds_toArray, List.set_cons_zero, List.set_cons_succ]))
      (refine WG.take (i := 14) (v := ?_) rfl (by kernel_rfl) (by kernel_rfl) (by kernel_rfl) (by kernel_rfl) (fun _ _ _ h => h) (Or.inl ⟨by rfl, ?_⟩) (by assumption) ?_; rotate_left; (intro w hSw; (try dsimp only at hSw); go_split_ands; go_simp; (try with_reducible rfl)); (try simp only [Act.put, List.setIfInBounds_toArray, List.set_cons_zero, List.set_cons_succ]))
      (refine WG.take (i := 15) (v := ?_) rfl (by kernel_rfl) (by kernel_rfl) (by kernel_rfl) (by kernel_rfl) (fun _ _ _ h => h) (Or.inl ⟨by rfl, ?_⟩) (by assumption) ?_; rotate_left; (intro w hSw; (try dsimp only at hSw); go_split_ands; go_simp; (try with_reducible rfl)); (try simp only [Act.put, List.setIfInBounds_toArray, List.set_cons_zero, List.set_cons_succ]))
      (refine WG.take (i := 16) (v := ?_) rfl (by kernel_rfl) (by kernel_rfl) (by kernel_rfl) (by kernel_rfl) (fun _ _ _ h => h) (Or.inl ⟨by rfl, ?_⟩) (by assumption) ?_; rotate_left; (intro w hSw; (try dsimp only at hSw); go_split_ands; go_simp; (try with_reducible rfl)); (try simp only [Act.put, List.setIfInBounds_toArray, List.set_cons_zero, List.set_cons_succ]))
      (refine WG.take (i := 17) (v := ?_) rfl (by kernel_rfl) (by kernel_rfl) (by kernel_rfl) (by kernel_rfl) (fun _ _ _ h => h) (Or.inl ⟨by rfl, ?_⟩) (by assumption) ?_; rotate_left; (intro w hSw; (try dsimp only at hSw); go_split_ands; go_simp; (try with_reducible rfl)); (try simp only [Act.put, List.setIfInBounds_toArray, List.set_cons_zero, List.set_cons_succ]))
      (refine WG.take (i := 18) (v := ?_) rfl (by kernel_rfl) (by kernel_rfl) (by kernel_rfl) (by kernel_rfl) (fun _ _ _ h => h) (Or.inl ⟨by rfl, ?_⟩) (by assumption) ?_; rotate_left; (intro w hSw; (try dsimp only at hSw); go_split_ands; go_simp; (try with_reducible rfl)); (try simp only [Act.put, List.setIfInBounds_toArray, List.set_cons_zero, List.set_cons_succ]))
      (refine WG.take (i := 19) (v := ?_) rfl (by kernel_rfl) (by kernel_rfl) (by kernel_rfl) (by kernel_rfl) (fun _ _ _ h => h) (Or.inl ⟨by rfl, ?_⟩) (by assumption) ?_; rotate_left; (intro w hSw; (try dsimp only at hSw); go_split_ands; go_simp; (try with_reducible rfl)); (try simp only [Act.put, List.setIfInBounds_toArray, List.set_cons_zero, List.set_cons_succ]))
      (refine WG.take (i := 20) (v := ?_) rfl (by kernel_rfl) (by kernel_rfl) (by kernel_rfl) (by kernel_rfl) (fun _ _ _ h => h) (Or.inl ⟨by rfl, ?_⟩) (by assumption) ?_; rotate_left; (intro w hSw; (try dsimp only at hSw); go_split_ands; go_simp; (try with_reducible rfl)); (try simp only [Act.put, List.setIfInBounds_toArray, List.set_cons_zero, List.set_cons_succ]))
      (refine WG.take (i := 21) (v := ?_) rfl (by kernel_rfl) (by kernel_rfl) (by kernel_rfl) (by kernel_rfl) (fun _ _ _ h => h) (Or.inl ⟨by rfl, ?_⟩) (by assumption) ?_; rotate_left; (intro w hSw; (try dsimp only at hSw); go_split_ands; go_simp; (try with_reducible rfl)); (try simp only [Act.put, List.setIfInBounds_toArray, List.set_cons_zero, List.set_cons_succ]))
      refine WG.one (i := 22) rfl (by kernel_rfl) (fun K hK => ?_)
      go_simp
      refine (iClusterCounts _ C _ (HO1.out.ext (HQ4.out.trans HF6.out)) HS.out.len HS.out.flat HS.out.ids).mono ?_
      rintro e w7 ⟨v7, rfl, hO7, hE7⟩
      obtain ⟨g7, c7, rfl, hK7⟩ := counts_row hv hO7
      have HF7 := hid (HF6.out.trans hE7)
      have K7 := hid hK7
      clear hO7 hE7 hK7
      (try dsimp only)
      refine hK.out _ _ (by exact KH.out _ HF7.out) (fun hHeld => ?_)
      clear hK K
      (try simp only [Act.put, List.setIfInBounds_toArray, List.set_cons_zero, List.set_cons_succ])
      refine WG.strong (fun w' => (w'.cell? ⟨w1.heap.size, 0, none⟩ = some (.slice Ar C.room.length cr) ∧ w'.cell? ⟨w1.heap.size, 1, none⟩ = some (.slice Au C.units.length cu) ∧ w'.cell? ⟨g2, m, none⟩ = some (.int .i64 sm)) ∧ w'.cell? ⟨g7, 2, none⟩ = some (.int .i64 (manyN C : Int))) (fun w' h => h.1) (And.intro (KH.out _ HF7.out) (K7.out _ (Ext.refl _)).2.2) (fun hHeld2 => ?_)
      (refine WG.take (i := 23) (v := ?_) rfl (by kernel_rfl) (by kernel_rfl) (by kernel_rfl) (by kernel_rfl) (fun _ _ _ h => h) (Or.inl ⟨by rfl, ?_⟩) (by assumption) ?_; rotate_left; (intro w hSw; (try dsimp only at hSw); go_split_ands; go_simp; (try with_reducible rfl)); (try simp only [Act.put, List.setIfInBounds_toArray, List.set_cons_zero, List.set_cons_succ]))
      (refine WG.take (i := 24) (v := ?_) rfl (by kernel_rfl) (by kernel_rfl) (by kernel_rfl) (by kernel_rfl) (fun _ _ _ h => h) (Or.inl ⟨by rfl, ?_⟩) (by assumption) ?_; rotate_left; (intro w hSw; (try dsimp only at hSw); go_split_ands; go_simp; (try with_reducible rfl)); (try simp only [Act.put, List.setIfInBounds_toArray, List.set_cons_zero, List.set_cons_succ]))
      (refine WG.take (i := 25) (v := ?_) rfl (by kernel_rfl) (by kernel_rfl) (by kernel_rfl) (by kernel_rfl) (fun _ _ _ h => h) (Or.inl ⟨by rfl, ?_⟩) (by assumption) ?_; rotate_left; (intro w hSw; (try dsimp only at hSw); go_split_ands; go_simp; (try with_reducible rfl)); (try simp only [Act.put, List.setIfInBounds_toArray, List.set_cons_zero, List.set_cons_succ]))
      (refine WG.take (i := 26) (v := ?_) rfl (by kernel_rfl) (by kernel_rfl) (by kernel_rfl) (by kernel_rfl) (fun _ _ _ h => h) (Or.inl ⟨by rfl, ?_⟩) (by assumption) ?_; rotate_left; (intro w hSw; (try dsimp only at hSw); go_split_ands; go_simp; (try with_reducible rfl)); (try simp only [Act.put, List.setIfInBounds_toArray, List.set_cons_zero, List.set_cons_succ]))
      (refine WG.take (i := 27) (v := ?_) rfl (by kernel_rfl) (by kernel_rfl) (by kernel_rfl) (by kernel_rfl) (fun _ _ _ h => h) (Or.inl ⟨by rfl, ?_⟩) (by assumption) ?_; rotate_left; (intro w hSw; (try dsimp only at hSw); go_split_ands; go_simp; (try with_reducible rfl)); (try simp only [Act.put, List.setIfInBounds_toArray, List.set_cons_zero, List.set_cons_succ]))
      (refine WG.take (i := 28) (v := ?_) rfl (by kernel_rfl) (by kernel_rfl) (by kernel_rfl) (by kernel_rfl) (fun _ _ _ h => h) (Or.inl ⟨by rfl, ?_⟩) (by assumption) ?_; rotate_left; (intro w hSw; (try dsimp only at hSw); go_split_ands; go_simp; (try with_reducible rfl)); (try simp only [Act.put, List.setIfInBounds_toArray, List.set_cons_zero, List.set_cons_succ]))
      refine WG.last (i := 29) rfl (by kernel_rfl) (by kernel_rfl) (fun K hK => ?_)
      go_simp
      refine hK.out _ _ ?_
      clear hK K
      (try simp only [Act.put, List.setIfInBounds_toArray, List.set_cons_zero, List.set_cons_succ])
      refine WG.done (by kernel_rfl) ?_
      go_wp2
      go_ret
      exact ⟨rfl, HEW.out.trans (HQ4.out.trans HF7.out)⟩
    · have hv : clusOk C = false := by simpa using hv
      go_wp2_with (first
        | (go_at_call 34; have hq := HE4.out; refine (lSameInts _ _ [] _ (RSl.nil_ _ _ _ _ _ _ (by omega)) (RI.ext HO3.out hq)).mono ?_; rintro e w5 ⟨rfl, hE5⟩; have HE5 := hid (hq.trans hE5); clear hE5 hq)
        | (go_at_call 34; refine (lSameInts _ _ [] _ (RSl.nil_ _ _ _ _ _ _ (by omega)) HO3.out).mono ?_; rintro e w4 ⟨rfl, hE4⟩; have HE4 := hid hE4; clear hE4)
        | (go_at_call 22; refine (sClusterBytes _ C _ (HO1.out.ext HE2.out) HS.out.len HS.out.flat).mono ?_; rintro e w3 ⟨v3, rfl, hO3, hE3⟩; rw [hv]; rw [if_neg (by rw [hv]; simp)] at hO3; have HO3 := hid hO3.read; have HE3 := hid hE3; clear hO3 hE3)
        | (go_at_call 24; refine (iClusterBytes _ C _ HO1.out HS.out.len HS.out.flat HS.out.ids).mono ?_; rintro e w2 ⟨_, hh⟩; obtain ⟨rfl, hE2⟩ := hh hv; obtain ⟨hb0, hb1⟩ := KB.out _ hE2; have HE2 := hid hE2; clear hE2 hh))
      go_ret
      exact ⟨rfl, HEW.out.trans (HE2.out.trans (HE3.out.trans HE5.out))⟩
  · have i1 : (1048576 : Int) < (bs.length : Int) := by omega
    go_enter Try.func6, Try.ntmps6
    go_wp2
    go_ret
    exact ⟨rfl, Ext.refl _⟩

end Go.Proofs.Ytfgibhdglbjadaa
