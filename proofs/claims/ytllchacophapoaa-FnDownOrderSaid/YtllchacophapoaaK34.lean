/- The reference's first fit and best fit of all tasks. (Printed by genoc1.py.) -/
import Derived.Test.YtllchacophapoaaK32
import Derived.Test.YtllchacophapoaaK33
import Derived.Test.YtllchacophapoaaK13
import Derived.Test.YtllchacophapoaaK28
import Derived.Test.YtllchacophapoaaK5
namespace Go.Proofs.Ytllchacophapoaa
open Go.RowKit
set_option maxRecDepth 4000

set_option maxHeartbeats 4000000 in
theorem sL11All (rv tv : Value) (room : List Int) (ts : List TaskD) (w : World) (hR : RI w rv room) (h : RT w tv ts) (hq : tasksOk room ts = true) :
    Calls Try.prog 64 #[rv, tv] w (RetRB w (allBy (fun bs x => firstAt room bs x) ts)) := by
  have HR := hid hR
  have HT := hid h
  obtain ⟨Ar, cr, rfl, _⟩ := hR
  obtain ⟨At, ct, rfl, _, _, hg⟩ := RT.get h
  have HG := hid hg
  obtain ⟨W, hW⟩ : ∃ W, W = w.alloc (.cells #[] 28) := ⟨_, rfl⟩
  have hEW : Ext w W := by rw [hW]; exact Ext.alloc _ _
  have HEW := hid hEW
  have HO0 : Hid (RB W (.slice (some ⟨w.heap.size, 0, none⟩) 0 0) []) := hid (RSl.nil_ _ _ _ _ _ _ (by omega))
  clear hEW h hg
  have HQ1 := hid hq
  have HSM := hid (fun k => bins_small (allBy_ok (chooses_first room) (tasks_sub (List.take_sublist k ts) hq)))
  have HRW := hid (fun k => bins_rows (allBy_ok (chooses_first room) (tasks_sub (List.take_sublist k ts) hq)))
  have HGT := hid (tasksOk_good hq)
  have HVV := hid (tasksOk_all hq).1
  have HRV := hid (roomOk_vec (tasksOk_room hq))
  clear hq
  go_enter Try.func64, Try.ntmps64
  go_wp2
  rw [← hW]
  clear hW
  go_loopw [5, 6] (fun o i wr => ∃ (u : Value) (k : Nat), u = o ∧ k ≤ ts.length ∧ i = .int .i64 k ∧ Hid (RB wr u (allBy (fun bs x => firstAt room bs x) (ts.take k)) ∧ Ext w wr)) (fun _ i _ => ts.length - (intOf i).toNat)
  case atStart => exact ⟨_, 0, rfl, Nat.zero_le _, rfl, hid ⟨HO0.out, HEW.out⟩⟩
  case round =>
    obtain ⟨u, k, rfl, hk, rfl, H⟩ := hrel
    by_cases hlt : k < ts.length
    · obtain ⟨b, o, x, An, cn, rfl, e, c0, c1, hnx⟩ := HG.out k hlt
      have i1 : (k : Int) < (ts.length : Int) := by omega
      have i0 : (0 : Int) ≤ (k : Int) := by omega
      have HBR := hid H.out.1
      have HE := hid H.out.2
      have HNX := hid (RI.ext hnx HE.out)
      have HXG := hid (HGT.out.2 x (List.mem_of_getElem? e.out))
      have HST := hid (allBy_take_succ (fun bs x => firstAt room bs x) e.out)
      obtain ⟨Bs, hBs⟩ : ∃ Bs, Bs = allBy (fun bs x => firstAt room bs x) (ts.take k) := ⟨_, rfl⟩
      have HSK := hid (hBs ▸ HSM.out k)
      have HRK := hid (hBs ▸ HRW.out k)
      rw [← hBs] at HBR HST
      obtain ⟨Au, cu, hu⟩ := bin_row HBR.out
      subst hu
      have KB : Hid (∀ w', Ext wr w' → w'.cell? ⟨b, o + k * 2, none⟩ = some (.int .i64 x.id) ∧ w'.cell? ⟨b, o + k * 2 + 1, none⟩ = some (.slice An x.need.length cn)) := hid fun w' hw => ⟨(HE.out.trans hw).cell c0, (HE.out.trans hw).cell c1⟩
      obtain ⟨zz, hzz⟩ : ∃ zz, zz = firstAt room Bs x := ⟨_, rfl⟩
      have HZC : Hid (zz < 0 ∨ ∃ (k : Nat) (b : List TaskD), zz = (k : Int) ∧ Bs[k]? = some b ∧ l11fits room b x = true) := hid (by rw [hzz]; exact chooses_first room Bs x)
      have HZZ := hid hzz
      clear hBs H c0 c1 hnx hzz
      go_wp2
      have HE2 : Hid (Ext wr wr) := hid (Ext.refl _)
      have HDr := hid (HE2.out.trans (Below.drew (Below.refl _ _)))
      refine WG.start (fun w' => w'.cell? ⟨b, o + k * 2, none⟩ = some (.int .i64 x.id) ∧ w'.cell? ⟨b, o + k * 2 + 1, none⟩ = some (.slice An x.need.length cn)) [12,13] (by kernel_rfl) (by exact KB.out _ HDr.out) (fun hHeld => ?_)
      obtain ⟨pz, hpz⟩ : ∃ x, x = wr.drew := ⟨_, rfl⟩
      rw [← hpz] at hHeld HDr ⊢
      clear hpz
      (refine WG.take (i := 0) (v := ?_) rfl (by kernel_rfl) (by kernel_rfl) (by kernel_rfl) (by kernel_rfl) (fun _ _ _ h => h) (Or.inl ⟨by rfl, ?_⟩) (by assumption) ?_; rotate_left; (intro w hSw; (try dsimp only at hSw); go_split_ands; go_simp; (try with_reducible rfl)); (try simp only [Act.put, List.setIfInBounds_toArray, List.set_cons_zero, List.set_cons_succ]))
      (refine WG.take (i := 1) (v := ?_) rfl (by kernel_rfl) (by kernel_rfl) (by kernel_rfl) (by kernel_rfl) (fun _ _ _ h => h) (Or.inl ⟨by rfl, ?_⟩) (by assumption) ?_; rotate_left; (intro w hSw; (try dsimp only at hSw); go_split_ands; go_simp; (try with_reducible rfl)); (try simp only [Act.put, List.setIfInBounds_toArray, List.set_cons_zero, List.set_cons_succ]))
      (refine WG.take (i := 2) (v := ?_) rfl (by kernel_rfl) (by kernel_rfl) (by kernel_rfl) (by kernel_rfl) (fun _ _ _ h => h) (Or.inl ⟨by rfl, ?_⟩) (by assumption) ?_; rotate_left; (intro w hSw; (try dsimp only at hSw); go_split_ands; go_simp; (try with_reducible rfl)); (try simp only [Act.put, List.setIfInBounds_toArray, List.set_cons_zero, List.set_cons_succ]))
      (refine WG.take (i := 3) (v := ?_) rfl (by kernel_rfl) (by kernel_rfl) (by kernel_rfl) (by kernel_rfl) (fun _ _ _ h => h) (Or.inl ⟨by rfl, ?_⟩) (by assumption) ?_; rotate_left; (intro w hSw; (try dsimp only at hSw); go_split_ands; go_simp; (try with_reducible rfl)); (try simp only [Act.put, List.setIfInBounds_toArray, List.set_cons_zero, List.set_cons_succ]))
      (refine WG.take (i := 4) (v := ?_) rfl (by kernel_rfl) (by kernel_rfl) (by kernel_rfl) (by kernel_rfl) (fun _ _ _ h => h) (Or.inl ⟨by rfl, ?_⟩) (by assumption) ?_; rotate_left; (intro w hSw; (try dsimp only at hSw); go_split_ands; go_simp; (try with_reducible rfl)); (try simp only [Act.put, List.setIfInBounds_toArray, List.set_cons_zero, List.set_cons_succ]))
      (refine WG.take (i := 5) (v := ?_) rfl (by kernel_rfl) (by kernel_rfl) (by kernel_rfl) (by kernel_rfl) (fun _ _ _ h => h) (Or.inl ⟨by rfl, ?_⟩) (by assumption) ?_; rotate_left; (intro w hSw; (try dsimp only at hSw); go_split_ands; go_simp; (try with_reducible rfl)); (try simp only [Act.put, List.setIfInBounds_toArray, List.set_cons_zero, List.set_cons_succ]))
      (refine WG.take (i := 6) (v := ?_) rfl (by kernel_rfl) (by kernel_rfl) (by kernel_rfl) (by kernel_rfl) (fun _ _ _ h => h) (Or.inl ⟨by rfl, ?_⟩) (by assumption) ?_; rotate_left; (intro w hSw; (try dsimp only at hSw); go_split_ands; go_simp; (try with_reducible rfl)); (try simp only [Act.put, List.setIfInBounds_toArray, List.set_cons_zero, List.set_cons_succ]))
      (refine WG.take (i := 8) (v := ?_) rfl (by kernel_rfl) (by kernel_rfl) (by kernel_rfl) (by kernel_rfl) (fun _ _ _ h => h) (Or.inl ⟨by rfl, ?_⟩) (by assumption) ?_; rotate_left; (intro w hSw; (try dsimp only at hSw); go_split_ands; go_simp; (try with_reducible rfl)); (try simp only [Act.put, List.setIfInBounds_toArray, List.set_cons_zero, List.set_cons_succ]))
      (refine WG.take (i := 9) (v := ?_) rfl (by kernel_rfl) (by kernel_rfl) (by kernel_rfl) (by kernel_rfl) (fun _ _ _ h => h) (Or.inl ⟨by rfl, ?_⟩) (by assumption) ?_; rotate_left; (intro w hSw; (try dsimp only at hSw); go_split_ands; go_simp; (try with_reducible rfl)); (try simp only [Act.put, List.setIfInBounds_toArray, List.set_cons_zero, List.set_cons_succ]))
      (refine WG.take (i := 10) (v := ?_) rfl (by kernel_rfl) (by kernel_rfl) (by kernel_rfl) (by kernel_rfl) (fun _ _ _ h => h) (Or.inl ⟨by rfl, ?_⟩) (by assumption) ?_; rotate_left; (intro w hSw; (try dsimp only at hSw); go_split_ands; go_simp; (try with_reducible rfl)); (try simp only [Act.put, List.setIfInBounds_toArray, List.set_cons_zero, List.set_cons_succ]))
      (refine WG.take (i := 11) (v := ?_) rfl (by kernel_rfl) (by kernel_rfl) (by kernel_rfl) (by kernel_rfl) (fun _ _ _ h => h) (Or.inl ⟨by rfl, ?_⟩) (by assumption) ?_; rotate_left; (intro w hSw; (try dsimp only at hSw); go_split_ands; go_simp; (try with_reducible rfl)); (try simp only [Act.put, List.setIfInBounds_toArray, List.set_cons_zero, List.set_cons_succ]))
      refine WG.one (i := 7) rfl (by kernel_rfl) (fun K hK => ?_)
      go_simp; refine (sAt11 _ _ _ room Bs x _ (RI.ext HR.out (HE.out.trans HDr.out)) (RB.ext HBR.out HDr.out) ⟨_, rfl, RI.ext HNX.out HDr.out⟩ HSK.out.1 (fun b hb => (HSK.out.2.2.2 b hb).1) HXG.out).mono ?_; rw [← HZZ.out]; rintro e6 w6 ⟨rfl, hE6⟩; have HE6 := hid (HDr.out.trans hE6); clear hE6; (try dsimp only)
      refine hK.out _ _ (by exact KB.out _ HE6.out) (fun hHeld => ?_)
      clear hK K
      (try simp only [Act.put, List.setIfInBounds_toArray, List.set_cons_zero, List.set_cons_succ])
      refine WG.last (i := 12) rfl (by kernel_rfl) (by kernel_rfl) (fun K hK => ?_)
      go_simp; refine (sPut _ _ room Bs zz x _ (RB.ext HBR.out HE6.out) ⟨_, rfl, RI.ext HNX.out HE6.out⟩ HZC.out (by have := HSK.out.2.1; omega) HRK.out.2.2 (by have := HXG.out.1; omega)).mono ?_; rintro e7 w7 ⟨v7, rfl, hB7, hE7⟩; have HB7 := hid hB7; have HE7 := hid (HE6.out.trans hE7); clear hB7 hE7; (try dsimp only)
      refine hK.out _ _ ?_
      clear hK K
      (try simp only [Act.put, List.setIfInBounds_toArray, List.set_cons_zero, List.set_cons_succ])
      refine WG.last (i := 13) rfl (by kernel_rfl) (by kernel_rfl) (fun K hK => ?_)
      go_simp
      refine hK.out _ _ ?_
      clear hK K
      (try simp only [Act.put, List.setIfInBounds_toArray, List.set_cons_zero, List.set_cons_succ])
      refine WG.done (by kernel_rfl) ?_
      go_wp2
      go_roundw
      case rel => exact ⟨_, k + 1, rfl, by omega, by go_num, hid ⟨by rw [HST.out, ← HZZ.out]; exact HB7.out, HE.out.trans HE7.out⟩⟩
      case measure => simp [intOf]; omega
    · have hk' : k = ts.length := by omega
      have HK := hid hk'
      clear hk'
      go_wp2
      go_ret
      have h1 := H.out.1
      rw [HK.out, List.take_length] at h1
      exact ⟨_, rfl, h1, H.out.2⟩

theorem sFirstAll (rv tv : Value) (room : List Int) (ts : List TaskD) (w : World) (hR : RI w rv room) (h : RT w tv ts) :
    Calls Try.prog 35 #[rv, tv] w (RetRB w (firstAllN room ts)) := by
  have HR := hid hR
  have HT := hid h
  obtain ⟨Ar, cr, rfl, _⟩ := hR
  obtain ⟨At, ct, rfl, _⟩ := RT.get h
  clear h
  cases hq : tasksOk room ts with
  | true =>
    have HRS : Hid (firstAllN room ts = allBy (fun bs x => firstAt room bs x) ts) := hid (by unfold firstAllN; rw [hq]; rfl)
    go_enter Try.func35, Try.ntmps35
    go_wp2_with (first
      | (go_at_call 23; refine (sTasksValid _ _ room ts _ HR.out HT.out).mono ?_; rintro e w1 ⟨rfl, n1, hw1⟩; rw [hq]; have HE1 : Hid (Ext w w1) := hid (by rw [hw1]; exact Ext.drewN _ _); clear hw1)
      | (go_at_call 64; refine (sL11All _ _ room ts _ (RI.ext HR.out HE1.out) (RT.ext HT.out HE1.out) hq).mono ?_; rintro e w2 ⟨v2, rfl, hB2, hE2⟩; have HB2 := hid hB2; have HE2 := hid (HE1.out.trans hE2); clear hB2 hE2))
    go_ret
    exact ⟨_, rfl, by rw [HRS.out]; exact HB2.out, HE2.out⟩
  | false =>
    have HRS : Hid (firstAllN room ts = []) := hid (by unfold firstAllN; rw [hq]; rfl)
    go_enter Try.func35, Try.ntmps35
    go_wp2_with (first
      | (go_at_call 23; refine (sTasksValid _ _ room ts _ HR.out HT.out).mono ?_; rintro e w1 ⟨rfl, n1, hw1⟩; rw [hq]; have HE1 : Hid (Ext w w1) := hid (by rw [hw1]; exact Ext.drewN _ _); clear hw1))
    go_ret
    exact ⟨_, rfl, by rw [HRS.out]; exact RSl.nil_ _ _ _ _ _ _ (by omega), HE1.out.trans (Ext.alloc _ _)⟩

set_option maxHeartbeats 1000000 in
theorem sScore12 (rv v xv : Value) (room : List Int) (b : List TaskD) (x : TaskD) (w : World) (hR : RI w rv room) (h : RT w v b) (hx : TaskV w xv x) (hrv : vecOk room = true) (hg : GoodTs b) (hv : vecOk x.need = true) :
    Calls Try.prog 105 #[rv, v, xv] w (RetN w (scoreL room b x)) := by
  obtain ⟨nv, rfl, hnv⟩ := hx
  obtain ⟨An, cn, rfl, _⟩ := RI.get hnv
  have HE0 := hid (Ext.alloc w (.cells #[.int .i64 x.id, .slice An x.need.length cn] 43))
  obtain ⟨W, hW⟩ : ∃ W, W = w.alloc (.cells #[.int .i64 x.id, .slice An x.need.length cn] 43) := ⟨_, rfl⟩
  have hbx : W.heap[w.heap.size]? = some (.cells #[.int .i64 x.id, .slice An x.need.length cn] 43 (0, 0)) := by rw [hW]; exact heap_alloc_new _ _
  rw [← hW] at HE0
  have KB : Hid (∀ w', Ext W w' → w'.cell? ⟨w.heap.size, 1, none⟩ = some (.slice An x.need.length cn)) := hid fun w' hw => obj_cell (hw.obj hbx) (i := 1) rfl
  have H1 := hid (h.ext HE0.out)
  have H2 := hid (hnv.ext HE0.out)
  have H3 := hid (hR.ext HE0.out)
  have HG := hid hg
  have HV := hid hv
  have HLR := hid (vecOk_len hrv)
  have HRB := hid ((vecOk_bd hrv).mono (show (20 : Int) ≤ 1000000 by omega))
  have HNB := hid (vecOk_bd hv)
  have HNL := hid (vecOk_len hv)
  have HL := hid (loadL_len b)
  have HB := hid (load_bd hg)
  have HBL := hid (Bd.mono (Bd.add HRB.out HB.out (by omega) (by omega) (-1) (.inr rfl)) (show (1000000 + 1000000 : Int) ≤ 2000000 by omega))
  have HDr : Hid (Ext W W.drew) := hid (Below.drew (Below.refl _ _))
  clear h hR hnv hg hv hrv hbx
  go_enter Try.func105, Try.ntmps105
  go_wp2
  rw [← hW]
  clear hW
  refine WG.start (fun w' => w'.cell? ⟨w.heap.size, 1, none⟩ = some (.slice An x.need.length cn)) [6,7] (by kernel_rfl) (by exact KB.out _ HDr.out) (fun hHeld => ?_)
  obtain ⟨pz, hpz⟩ : ∃ x, x = W.drew := ⟨_, rfl⟩
  rw [← hpz] at hHeld HDr ⊢
  clear hpz
  (refine WG.take (i := 0) (v := ?_) rfl (by kernel_rfl) (by kernel_rfl) (by kernel_rfl) (by kernel_rfl) (fun _ _ _ h => h) (Or.inl ⟨by rfl, ?_⟩) (by assumption) ?_; rotate_left; (intro w hSw; (try dsimp only at hSw); go_split_ands; go_simp; (try with_reducible rfl)); (try simp only [Act.put, List.setIfInBounds_toArray, List.set_cons_zero, List.set_cons_succ]))
  (refine WG.take (i := 1) (v := ?_) rfl (by kernel_rfl) (by kernel_rfl) (by kernel_rfl) (by kernel_rfl) (fun _ _ _ h => h) (Or.inl ⟨by rfl, ?_⟩) (by assumption) ?_; rotate_left; (intro w hSw; (try dsimp only at hSw); go_split_ands; go_simp; (try with_reducible rfl)); (try simp only [Act.put, List.setIfInBounds_toArray, List.set_cons_zero, List.set_cons_succ]))
  (refine WG.take (i := 2) (v := ?_) rfl (by kernel_rfl) (by kernel_rfl) (by kernel_rfl) (by kernel_rfl) (fun _ _ _ h => h) (Or.inl ⟨by rfl, ?_⟩) (by assumption) ?_; rotate_left; (intro w hSw; (try dsimp only at hSw); go_split_ands; go_simp; (try with_reducible rfl)); (try simp only [Act.put, List.setIfInBounds_toArray, List.set_cons_zero, List.set_cons_succ]))
  (refine WG.take (i := 3) (v := ?_) rfl (by kernel_rfl) (by kernel_rfl) (by kernel_rfl) (by kernel_rfl) (fun _ _ _ h => h) (Or.inl ⟨by rfl, ?_⟩) (by assumption) ?_; rotate_left; (intro w hSw; (try dsimp only at hSw); go_split_ands; go_simp; (try with_reducible rfl)); (try simp only [Act.put, List.setIfInBounds_toArray, List.set_cons_zero, List.set_cons_succ]))
  refine WG.one (i := 4) rfl (by kernel_rfl) (fun K hK => ?_)
  go_simp; refine (sLoad _ b _ (RT.ext H1.out HDr.out) HG.out).mono ?_; rintro e1 w1 ⟨v1, rfl, hv1, hE1⟩; have HV1 := hid hv1; have HE1 := hid (HDr.out.trans hE1); clear hv1 hE1; (try dsimp only)
  refine hK.out _ _ (by exact KB.out _ HE1.out) (fun hHeld => ?_)
  clear hK K
  (try simp only [Act.put, List.setIfInBounds_toArray, List.set_cons_zero, List.set_cons_succ])
  refine WG.one (i := 5) rfl (by kernel_rfl) (fun K hK => ?_)
  go_simp; refine (sAdd _ _ room (loadL b) (-1) _ (RI.ext H3.out HE1.out) HV1.out HLR.out HL.out HRB.out HB.out (.inr rfl)).mono ?_; rintro e2 w2 ⟨v2, rfl, hv2, hE2⟩; have HV2 := hid hv2; have HE2 := hid (HE1.out.trans hE2); clear hv2 hE2; (try dsimp only)
  refine hK.out _ _ (by exact KB.out _ HE2.out) (fun hHeld => ?_)
  clear hK K
  (try simp only [Act.put, List.setIfInBounds_toArray, List.set_cons_zero, List.set_cons_succ])
  refine WG.last (i := 6) rfl (by kernel_rfl) (by kernel_rfl) (fun K hK => ?_)
  go_simp; refine (sDot _ _ x.need (leftL room b) _ (RI.ext H2.out HE2.out) HV2.out HNL.out (addL_len _ _ _) HNB.out HBL.out).mono ?_; rintro e3 w3 ⟨rfl, n3, hw3⟩; have HE3 : Hid (Ext W w3) := hid (by rw [hw3]; exact HE2.out.trans (Ext.drewN _ _)); clear hw3; (try dsimp only)
  refine hK.out _ _ ?_
  clear hK K
  (try simp only [Act.put, List.setIfInBounds_toArray, List.set_cons_zero, List.set_cons_succ])
  refine WG.last (i := 7) rfl (by kernel_rfl) (by kernel_rfl) (fun K hK => ?_)
  go_simp
  refine hK.out _ _ ?_
  clear hK K
  (try simp only [Act.put, List.setIfInBounds_toArray, List.set_cons_zero, List.set_cons_succ])
  refine WG.done (by kernel_rfl) ?_
  go_wp2
  go_ret
  exact ⟨rfl, HE0.out.trans HE3.out⟩

theorem bestTo_nofit {room : List Int} {bs : List (List TaskD)} {x : TaskD} {k : Nat} {y : List TaskD} (h : bs[k]? = some y) (hf : l11fits room y x = false) : bestTo room bs x (k + 1) = bestTo room bs x k := by
  have e : bs.getD k [] = y := by rw [List.getD_eq_getElem?_getD, h]; rfl
  have e3 : bestTo room bs x (k + 1) = if l11fits room (bs.getD k []) x then (match bestTo room bs x k with | none => some k | some b => if scoreAt room bs x b < scoreAt room bs x k then some k else some b) else bestTo room bs x k := rfl
  rw [e3, e, hf]
  rfl
theorem bestTo_new {room : List Int} {bs : List (List TaskD)} {x : TaskD} {k : Nat} {y : List TaskD} (h : bs[k]? = some y) (hf : l11fits room y x = true) (hb : bestTo room bs x k = none) : bestTo room bs x (k + 1) = some k := by
  have e : bs.getD k [] = y := by rw [List.getD_eq_getElem?_getD, h]; rfl
  have e3 : bestTo room bs x (k + 1) = if l11fits room (bs.getD k []) x then (match bestTo room bs x k with | none => some k | some b => if scoreAt room bs x b < scoreAt room bs x k then some k else some b) else bestTo room bs x k := rfl
  rw [e3, e, hf, hb]
  rfl
theorem bestTo_more {room : List Int} {bs : List (List TaskD)} {x : TaskD} {k j : Nat} {y yj : List TaskD} (h : bs[k]? = some y) (hj : bs[j]? = some yj) (hf : l11fits room y x = true) (hb : bestTo room bs x k = some j) :
    bestTo room bs x (k + 1) = if scoreL room yj x < scoreL room y x then some k else some j := by
  have e : bs.getD k [] = y := by rw [List.getD_eq_getElem?_getD, h]; rfl
  have e2 : bs.getD j [] = yj := by rw [List.getD_eq_getElem?_getD, hj]; rfl
  have e3 : bestTo room bs x (k + 1) = if l11fits room (bs.getD k []) x then (match bestTo room bs x k with | none => some k | some b => if scoreAt room bs x b < scoreAt room bs x k then some k else some b) else bestTo room bs x k := rfl
  rw [e3, e, hf, hb]
  show (if scoreL room (bs.getD j []) x < scoreL room (bs.getD k []) x then some k else some j) = _
  rw [e, e2]

set_option maxHeartbeats 4000000 in
theorem sAt12 (rv v xv : Value) (room : List Int) (bs : List (List TaskD)) (x : TaskD) (w : World) (hR : RI w rv room) (h : RB w v bs) (hx : TaskV w xv x) (hrv : vecOk room = true) (hg : ∀ b ∈ bs, GoodTs b) (hn : x.need.length = 3 ∧ Bd 1000 x.need) (hv : vecOk x.need = true) :
    Calls Try.prog 87 #[rv, v, xv] w (RetN w (bestAt room bs x)) := by
  obtain ⟨nv, rfl, hnv⟩ := hx
  obtain ⟨An, cn, rfl, _⟩ := RI.get hnv
  have HR1' := hR
  obtain ⟨Ar, cr, rfl, _⟩ := hR
  obtain ⟨Ab, cb, rfl, hc, hc', hgb⟩ := RB.get h
  obtain ⟨W, hW⟩ : ∃ W, W = w.alloc (.cells #[.int .i64 x.id, .slice An x.need.length cn] 43) := ⟨_, rfl⟩
  have hEW : Ext w W := by rw [hW]; exact Ext.alloc _ _
  have hbx : W.heap[w.heap.size]? = some (.cells #[.int .i64 x.id, .slice An x.need.length cn] 43 (0, 0)) := by rw [hW]; exact heap_alloc_new _ _
  have KB : Hid (∀ w', Ext W w' → w'.cell? ⟨w.heap.size, 0, none⟩ = some (.int .i64 x.id) ∧ w'.cell? ⟨w.heap.size, 1, none⟩ = some (.slice An x.need.length cn)) := hid fun w' hw => ⟨obj_cell (hw.obj hbx) (i := 0) rfl, obj_cell (hw.obj hbx) (i := 1) rfl⟩
  have HEW := hid hEW
  have HR1 := hid (RI.ext HR1' hEW)
  have HN1 := hid (RI.ext hnv hEW)
  have HGB := hid hgb
  have HBG := hid hg
  have HXG := hid hn
  have HXV := hid hv
  have HRV := hid hrv
  have HLR := hid (vecOk_len hrv)
  clear h hgb hnv hg hn hv hrv hbx hEW HR1'
  go_enter Try.func87, Try.ntmps87
  go_wp2
  rw [← hW]
  clear hW
  go_loopw [7, 8] (fun s i wr => ∃ (k : Nat) (z : Int), k ≤ bs.length ∧ i = .int .i64 k ∧ s = .int .i64 z ∧ Hid (z = natI (bestTo room bs x k)) ∧ Hid (Ext W wr)) (fun _ i _ => bs.length - (intOf i).toNat)
  case atStart => exact ⟨0, -1, Nat.zero_le _, rfl, rfl, hid rfl, hid (Ext.refl _)⟩
  case round =>
    obtain ⟨k, z, hk, rfl, rfl, HZ, HE⟩ := hrel
    by_cases hlt : k < bs.length
    · obtain ⟨b, o, y, Ak, ck, rfl, ey, c1, hny⟩ := HGB.out k hlt
      have i1 : (k : Int) < (bs.length : Int) := by omega
      have i0 : (0 : Int) ≤ (k : Int) := by omega
      have HYG := hid (HBG.out y (List.mem_of_getElem? ey.out))
      have HY := hid (RT.ext hny (HEW.out.trans HE.out))
      have HC1 := hid c1
      clear c1 hny
      cases hf : l11fits room y x with
      | false =>
        have KC : Hid (∀ w', Ext wr w' → w'.cell? ⟨w.heap.size, 0, none⟩ = some (.int .i64 x.id) ∧ w'.cell? ⟨w.heap.size, 1, none⟩ = some (.slice An x.need.length cn) ∧ w'.cell? ⟨b, o + k, none⟩ = some (.slice Ak y.length ck)) := hid fun w' hw => ⟨(KB.out _ (HE.out.trans hw)).1, (KB.out _ (HE.out.trans hw)).2, (HEW.out.trans (HE.out.trans hw)).cell HC1.out⟩
        go_wp2
        have HDr : Hid (Ext wr wr.drew) := hid (Below.drew (Below.refl _ _))
        refine WG.start (fun w' => w'.cell? ⟨w.heap.size, 0, none⟩ = some (.int .i64 x.id) ∧ w'.cell? ⟨w.heap.size, 1, none⟩ = some (.slice An x.need.length cn) ∧ w'.cell? ⟨b, o + k, none⟩ = some (.slice Ak y.length ck)) [] (by kernel_rfl) (by exact KC.out _ HDr.out) (fun hHeld => ?_)
        obtain ⟨pz, hpz⟩ : ∃ x, x = wr.drew := ⟨_, rfl⟩
        rw [← hpz] at hHeld HDr ⊢
        clear hpz
        (refine WG.take (i := 0) (v := ?_) rfl (by kernel_rfl) (by kernel_rfl) (by kernel_rfl) (by kernel_rfl) (fun _ _ _ h => h) (Or.inl ⟨by rfl, ?_⟩) (by assumption) ?_; rotate_left; (intro w hSw; (try dsimp only at hSw); go_split_ands; go_simp; (try with_reducible rfl)); (try simp only [Act.put, List.setIfInBounds_toArray, List.set_cons_zero, List.set_cons_succ]))
        (refine WG.take (i := 1) (v := ?_) rfl (by kernel_rfl) (by kernel_rfl) (by kernel_rfl) (by kernel_rfl) (fun _ _ _ h => h) (Or.inl ⟨by rfl, ?_⟩) (by assumption) ?_; rotate_left; (intro w hSw; (try dsimp only at hSw); go_split_ands; go_simp; (try with_reducible rfl)); (try simp only [Act.put, List.setIfInBounds_toArray, List.set_cons_zero, List.set_cons_succ]))
        (refine WG.take (i := 2) (v := ?_) rfl (by kernel_rfl) (by kernel_rfl) (by kernel_rfl) (by kernel_rfl) (fun _ _ _ h => h) (Or.inl ⟨by rfl, ?_⟩) (by assumption) ?_; rotate_left; (intro w hSw; (try dsimp only at hSw); go_split_ands; go_simp; (try with_reducible rfl)); (try simp only [Act.put, List.setIfInBounds_toArray, List.set_cons_zero, List.set_cons_succ]))
        (refine WG.take (i := 3) (v := ?_) rfl (by kernel_rfl) (by kernel_rfl) (by kernel_rfl) (by kernel_rfl) (fun _ _ _ h => h) (Or.inl ⟨by rfl, ?_⟩) (by assumption) ?_; rotate_left; (intro w hSw; (try dsimp only at hSw); go_split_ands; go_simp; (try with_reducible rfl)); (try simp only [Act.put, List.setIfInBounds_toArray, List.set_cons_zero, List.set_cons_succ]))
        (refine WG.take (i := 4) (v := ?_) rfl (by kernel_rfl) (by kernel_rfl) (by kernel_rfl) (by kernel_rfl) (fun _ _ _ h => h) (Or.inl ⟨by rfl, ?_⟩) (by assumption) ?_; rotate_left; (intro w hSw; (try dsimp only at hSw); go_split_ands; go_simp; (try with_reducible rfl)); (try simp only [Act.put, List.setIfInBounds_toArray, List.set_cons_zero, List.set_cons_succ]))
        (refine WG.take (i := 5) (v := ?_) rfl (by kernel_rfl) (by kernel_rfl) (by kernel_rfl) (by kernel_rfl) (fun _ _ _ h => h) (Or.inl ⟨by rfl, ?_⟩) (by assumption) ?_; rotate_left; (intro w hSw; (try dsimp only at hSw); go_split_ands; go_simp; (try with_reducible rfl)); (try simp only [Act.put, List.setIfInBounds_toArray, List.set_cons_zero, List.set_cons_succ]))
        refine WG.one (i := 6) rfl (by kernel_rfl) (fun K hK => ?_)
        go_simp; refine (sL11Fits _ _ _ room y x _ (RI.ext HR1.out (HE.out.trans HDr.out)) (RT.ext HY.out HDr.out) ⟨_, rfl, RI.ext HN1.out (HE.out.trans HDr.out)⟩ HLR.out HYG.out HXG.out).mono ?_; rw [hf]; rintro e6 w6 ⟨rfl, hE6⟩; have HE6 := hid (HDr.out.trans hE6); clear hE6; (try dsimp only)
        refine hK.out _ _ (by exact KC.out _ HE6.out) (fun hHeld => ?_)
        clear hK K
        (try simp only [Act.put, List.setIfInBounds_toArray, List.set_cons_zero, List.set_cons_succ])
        (refine WG.take (i := 7) (v := ?_) rfl (by kernel_rfl) (by kernel_rfl) (by kernel_rfl) (by kernel_rfl) (fun _ _ _ h => h) (Or.inl ⟨by rfl, ?_⟩) (by assumption) ?_; rotate_left; (intro w hSw; (try dsimp only at hSw); go_split_ands; go_simp; (try with_reducible rfl)); (try simp only [Act.put, List.setIfInBounds_toArray, List.set_cons_zero, List.set_cons_succ]))
        (refine WG.take (i := 8) rfl (by kernel_rfl) (by kernel_rfl) (by kernel_rfl) (by kernel_rfl) (fun _ _ _ h => h) (Or.inr ⟨?_, rfl⟩) (by assumption) ?_; go_simp; (try simp only [Act.put, List.setIfInBounds_toArray, List.set_cons_zero, List.set_cons_succ]))
        (refine WG.take (i := 9) rfl (by kernel_rfl) (by kernel_rfl) (by kernel_rfl) (by kernel_rfl) (fun _ _ _ h => h) (Or.inr ⟨?_, rfl⟩) (by assumption) ?_; go_simp; (try simp only [Act.put, List.setIfInBounds_toArray, List.set_cons_zero, List.set_cons_succ]))
        (refine WG.take (i := 10) rfl (by kernel_rfl) (by kernel_rfl) (by kernel_rfl) (by kernel_rfl) (fun _ _ _ h => h) (Or.inr ⟨?_, rfl⟩) (by assumption) ?_; go_simp; (try simp only [Act.put, List.setIfInBounds_toArray, List.set_cons_zero, List.set_cons_succ]))
        (refine WG.take (i := 11) rfl (by kernel_rfl) (by kernel_rfl) (by kernel_rfl) (by kernel_rfl) (fun _ _ _ h => h) (Or.inr ⟨by rfl, rfl⟩) (by assumption) ?_; (try simp only [Act.put, List.setIfInBounds_toArray, List.set_cons_zero, List.set_cons_succ]))
        (refine WG.take (i := 12) rfl (by kernel_rfl) (by kernel_rfl) (by kernel_rfl) (by kernel_rfl) (fun _ _ _ h => h) (Or.inr ⟨by rfl, rfl⟩) (by assumption) ?_; (try simp only [Act.put, List.setIfInBounds_toArray, List.set_cons_zero, List.set_cons_succ]))
        (refine WG.take (i := 13) rfl (by kernel_rfl) (by kernel_rfl) (by kernel_rfl) (by kernel_rfl) (fun _ _ _ h => h) (Or.inr ⟨by rfl, rfl⟩) (by assumption) ?_; (try simp only [Act.put, List.setIfInBounds_toArray, List.set_cons_zero, List.set_cons_succ]))
        (refine WG.take (i := 14) rfl (by kernel_rfl) (by kernel_rfl) (by kernel_rfl) (by kernel_rfl) (fun _ _ _ h => h) (Or.inr ⟨by rfl, rfl⟩) (by assumption) ?_; (try simp only [Act.put, List.setIfInBounds_toArray, List.set_cons_zero, List.set_cons_succ]))
        (refine WG.take (i := 15) rfl (by kernel_rfl) (by kernel_rfl) (by kernel_rfl) (by kernel_rfl) (fun _ _ _ h => h) (Or.inr ⟨by rfl, rfl⟩) (by assumption) ?_; (try simp only [Act.put, List.setIfInBounds_toArray, List.set_cons_zero, List.set_cons_succ]))
        (refine WG.take (i := 16) rfl (by kernel_rfl) (by kernel_rfl) (by kernel_rfl) (by kernel_rfl) (fun _ _ _ h => h) (Or.inr ⟨by rfl, rfl⟩) (by assumption) ?_; (try simp only [Act.put, List.setIfInBounds_toArray, List.set_cons_zero, List.set_cons_succ]))
        (refine WG.take (i := 17) rfl (by kernel_rfl) (by kernel_rfl) (by kernel_rfl) (by kernel_rfl) (fun _ _ _ h => h) (Or.inr ⟨by rfl, rfl⟩) (by assumption) ?_; (try simp only [Act.put, List.setIfInBounds_toArray, List.set_cons_zero, List.set_cons_succ]))
        (refine WG.take (i := 18) rfl (by kernel_rfl) (by kernel_rfl) (by kernel_rfl) (by kernel_rfl) (fun _ _ _ h => h) (Or.inr ⟨by rfl, rfl⟩) (by assumption) ?_; (try simp only [Act.put, List.setIfInBounds_toArray, List.set_cons_zero, List.set_cons_succ]))
        (refine WG.take (i := 19) rfl (by kernel_rfl) (by kernel_rfl) (by kernel_rfl) (by kernel_rfl) (fun _ _ _ h => h) (Or.inr ⟨by rfl, rfl⟩) (by assumption) ?_; (try simp only [Act.put, List.setIfInBounds_toArray, List.set_cons_zero, List.set_cons_succ]))
        (refine WG.take (i := 20) rfl (by kernel_rfl) (by kernel_rfl) (by kernel_rfl) (by kernel_rfl) (fun _ _ _ h => h) (Or.inr ⟨by rfl, rfl⟩) (by assumption) ?_; (try simp only [Act.put, List.setIfInBounds_toArray, List.set_cons_zero, List.set_cons_succ]))
        (refine WG.take (i := 21) rfl (by kernel_rfl) (by kernel_rfl) (by kernel_rfl) (by kernel_rfl) (fun _ _ _ h => h) (Or.inr ⟨by rfl, rfl⟩) (by assumption) ?_; (try simp only [Act.put, List.setIfInBounds_toArray, List.set_cons_zero, List.set_cons_succ]))
        (refine WG.take (i := 22) rfl (by kernel_rfl) (by kernel_rfl) (by kernel_rfl) (by kernel_rfl) (fun _ _ _ h => h) (Or.inr ⟨by rfl, rfl⟩) (by assumption) ?_; (try simp only [Act.put, List.setIfInBounds_toArray, List.set_cons_zero, List.set_cons_succ]))
        (refine WG.take (i := 23) rfl (by kernel_rfl) (by kernel_rfl) (by kernel_rfl) (by kernel_rfl) (fun _ _ _ h => h) (Or.inr ⟨by rfl, rfl⟩) (by assumption) ?_; (try simp only [Act.put, List.setIfInBounds_toArray, List.set_cons_zero, List.set_cons_succ]))
        (refine WG.take (i := 24) rfl (by kernel_rfl) (by kernel_rfl) (by kernel_rfl) (by kernel_rfl) (fun _ _ _ h => h) (Or.inr ⟨by rfl, rfl⟩) (by assumption) ?_; (try simp only [Act.put, List.setIfInBounds_toArray, List.set_cons_zero, List.set_cons_succ]))
        (refine WG.take (i := 25) rfl (by kernel_rfl) (by kernel_rfl) (by kernel_rfl) (by kernel_rfl) (fun _ _ _ h => h) (Or.inr ⟨by rfl, rfl⟩) (by assumption) ?_; (try simp only [Act.put, List.setIfInBounds_toArray, List.set_cons_zero, List.set_cons_succ]))
        (refine WG.take (i := 26) rfl (by kernel_rfl) (by kernel_rfl) (by kernel_rfl) (by kernel_rfl) (fun _ _ _ h => h) (Or.inr ⟨?_, rfl⟩) (by assumption) ?_; go_simp; (try simp only [Act.put, List.setIfInBounds_toArray, List.set_cons_zero, List.set_cons_succ]))
        (refine WG.take (i := 27) (v := ?_) rfl (by kernel_rfl) (by kernel_rfl) (by kernel_rfl) (by kernel_rfl) (fun _ _ _ h => h) (Or.inl ⟨by rfl, ?_⟩) (by assumption) ?_; rotate_left; (intro w hSw; (try dsimp only at hSw); go_split_ands; go_simp; (try with_reducible rfl)); (try simp only [Act.put, List.setIfInBounds_toArray, List.set_cons_zero, List.set_cons_succ]))
        refine WG.done (by kernel_rfl) ?_
        go_wp2
        go_roundw
        case rel => exact ⟨k + 1, z, by omega, by go_num, rfl, hid (by rw [bestTo_nofit ey.out hf]; exact HZ.out), hid (HE.out.trans HE6.out)⟩
        case measure => simp [intOf]; omega
      | true =>
        cases hb : bestTo room bs x k with
        | none =>
          have hz : z = -1 := by rw [HZ.out, hb]; rfl
          subst hz
          have KC : Hid (∀ w', Ext wr w' → w'.cell? ⟨w.heap.size, 0, none⟩ = some (.int .i64 x.id) ∧ w'.cell? ⟨w.heap.size, 1, none⟩ = some (.slice An x.need.length cn) ∧ w'.cell? ⟨b, o + k, none⟩ = some (.slice Ak y.length ck)) := hid fun w' hw => ⟨(KB.out _ (HE.out.trans hw)).1, (KB.out _ (HE.out.trans hw)).2, (HEW.out.trans (HE.out.trans hw)).cell HC1.out⟩
          go_wp2
          have HDr : Hid (Ext wr wr.drew) := hid (Below.drew (Below.refl _ _))
          refine WG.start (fun w' => w'.cell? ⟨w.heap.size, 0, none⟩ = some (.int .i64 x.id) ∧ w'.cell? ⟨w.heap.size, 1, none⟩ = some (.slice An x.need.length cn) ∧ w'.cell? ⟨b, o + k, none⟩ = some (.slice Ak y.length ck)) [] (by kernel_rfl) (by exact KC.out _ HDr.out) (fun hHeld => ?_)
          obtain ⟨pz, hpz⟩ : ∃ x, x = wr.drew := ⟨_, rfl⟩
          rw [← hpz] at hHeld HDr ⊢
          clear hpz
          (refine WG.take (i := 0) (v := ?_) rfl (by kernel_rfl) (by kernel_rfl) (by kernel_rfl) (by kernel_rfl) (fun _ _ _ h => h) (Or.inl ⟨by rfl, ?_⟩) (by assumption) ?_; rotate_left; (intro w hSw; (try dsimp only at hSw); go_split_ands; go_simp; (try with_reducible rfl)); (try simp only [Act.put, List.setIfInBounds_toArray, List.set_cons_zero, List.set_cons_succ]))
          (refine WG.take (i := 1) (v := ?_) rfl (by kernel_rfl) (by kernel_rfl) (by kernel_rfl) (by kernel_rfl) (fun _ _ _ h => h) (Or.inl ⟨by rfl, ?_⟩) (by assumption) ?_; rotate_left; (intro w hSw; (try dsimp only at hSw); go_split_ands; go_simp; (try with_reducible rfl)); (try simp only [Act.put, List.setIfInBounds_toArray, List.set_cons_zero, List.set_cons_succ]))
          (refine WG.take (i := 2) (v := ?_) rfl (by kernel_rfl) (by kernel_rfl) (by kernel_rfl) (by kernel_rfl) (fun _ _ _ h => h) (Or.inl ⟨by rfl, ?_⟩) (by assumption) ?_; rotate_left; (intro w hSw; (try dsimp only at hSw); go_split_ands; go_simp; (try with_reducible rfl)); (try simp only [Act.put, List.setIfInBounds_toArray, List.set_cons_zero, List.set_cons_succ]))
          (refine WG.take (i := 3) (v := ?_) rfl (by kernel_rfl) (by kernel_rfl) (by kernel_rfl) (by kernel_rfl) (fun _ _ _ h => h) (Or.inl ⟨by rfl, ?_⟩) (by assumption) ?_; rotate_left; (intro w hSw; (try dsimp only at hSw); go_split_ands; go_simp; (try with_reducible rfl)); (try simp only [Act.put, List.setIfInBounds_toArray, List.set_cons_zero, List.set_cons_succ]))
          (refine WG.take (i := 4) (v := ?_) rfl (by kernel_rfl) (by kernel_rfl) (by kernel_rfl) (by kernel_rfl) (fun _ _ _ h => h) (Or.inl ⟨by rfl, ?_⟩) (by assumption) ?_; rotate_left; (intro w hSw; (try dsimp only at hSw); go_split_ands; go_simp; (try with_reducible rfl)); (try simp only [Act.put, List.setIfInBounds_toArray, List.set_cons_zero, List.set_cons_succ]))
          (refine WG.take (i := 5) (v := ?_) rfl (by kernel_rfl) (by kernel_rfl) (by kernel_rfl) (by kernel_rfl) (fun _ _ _ h => h) (Or.inl ⟨by rfl, ?_⟩) (by assumption) ?_; rotate_left; (intro w hSw; (try dsimp only at hSw); go_split_ands; go_simp; (try with_reducible rfl)); (try simp only [Act.put, List.setIfInBounds_toArray, List.set_cons_zero, List.set_cons_succ]))
          refine WG.one (i := 6) rfl (by kernel_rfl) (fun K hK => ?_)
          go_simp; refine (sL11Fits _ _ _ room y x _ (RI.ext HR1.out (HE.out.trans HDr.out)) (RT.ext HY.out HDr.out) ⟨_, rfl, RI.ext HN1.out (HE.out.trans HDr.out)⟩ HLR.out HYG.out HXG.out).mono ?_; rw [hf]; rintro e6 w6 ⟨rfl, hE6⟩; have HE6 := hid (HDr.out.trans hE6); clear hE6; (try dsimp only)
          refine hK.out _ _ (by exact KC.out _ HE6.out) (fun hHeld => ?_)
          clear hK K
          (try simp only [Act.put, List.setIfInBounds_toArray, List.set_cons_zero, List.set_cons_succ])
          (refine WG.take (i := 7) (v := ?_) rfl (by kernel_rfl) (by kernel_rfl) (by kernel_rfl) (by kernel_rfl) (fun _ _ _ h => h) (Or.inl ⟨by rfl, ?_⟩) (by assumption) ?_; rotate_left; (intro w hSw; (try dsimp only at hSw); go_split_ands; go_simp; (try with_reducible rfl)); (try simp only [Act.put, List.setIfInBounds_toArray, List.set_cons_zero, List.set_cons_succ]))
          (refine WG.take (i := 8) (v := ?_) rfl (by kernel_rfl) (by kernel_rfl) (by kernel_rfl) (by kernel_rfl) (fun _ _ _ h => h) (Or.inl ⟨by rfl, ?_⟩) (by assumption) ?_; rotate_left; (intro w hSw; (try dsimp only at hSw); go_split_ands; go_simp; (try with_reducible rfl)); (try simp only [Act.put, List.setIfInBounds_toArray, List.set_cons_zero, List.set_cons_succ]))
          (refine WG.take (i := 9) (v := ?_) rfl (by kernel_rfl) (by kernel_rfl) (by kernel_rfl) (by kernel_rfl) (fun _ _ _ h => h) (Or.inl ⟨by rfl, ?_⟩) (by assumption) ?_; rotate_left; (intro w hSw; (try dsimp only at hSw); go_split_ands; go_simp; (try with_reducible rfl)); (try simp only [Act.put, List.setIfInBounds_toArray, List.set_cons_zero, List.set_cons_succ]))
          (refine WG.take (i := 10) (v := ?_) rfl (by kernel_rfl) (by kernel_rfl) (by kernel_rfl) (by kernel_rfl) (fun _ _ _ h => h) (Or.inl ⟨by rfl, ?_⟩) (by assumption) ?_; rotate_left; (intro w hSw; (try dsimp only at hSw); go_split_ands; go_simp; (try with_reducible rfl)); (try simp only [Act.put, List.setIfInBounds_toArray, List.set_cons_zero, List.set_cons_succ]))
          (refine WG.take (i := 11) rfl (by kernel_rfl) (by kernel_rfl) (by kernel_rfl) (by kernel_rfl) (fun _ _ _ h => h) (Or.inr ⟨?_, rfl⟩) (by assumption) ?_; go_simp; (try simp only [Act.put, List.setIfInBounds_toArray, List.set_cons_zero, List.set_cons_succ]))
          (refine WG.take (i := 12) rfl (by kernel_rfl) (by kernel_rfl) (by kernel_rfl) (by kernel_rfl) (fun _ _ _ h => h) (Or.inr ⟨?_, rfl⟩) (by assumption) ?_; go_simp; (try simp only [Act.put, List.setIfInBounds_toArray, List.set_cons_zero, List.set_cons_succ]))
          (refine WG.take (i := 13) rfl (by kernel_rfl) (by kernel_rfl) (by kernel_rfl) (by kernel_rfl) (fun _ _ _ h => h) (Or.inr ⟨?_, rfl⟩) (by assumption) ?_; go_simp; (try simp only [Act.put, List.setIfInBounds_toArray, List.set_cons_zero, List.set_cons_succ]))
          (refine WG.take (i := 14) rfl (by kernel_rfl) (by kernel_rfl) (by kernel_rfl) (by kernel_rfl) (fun _ _ _ h => h) (Or.inr ⟨?_, rfl⟩) (by assumption) ?_; go_simp; (try simp only [Act.put, List.setIfInBounds_toArray, List.set_cons_zero, List.set_cons_succ]))
          (refine WG.take (i := 15) rfl (by kernel_rfl) (by kernel_rfl) (by kernel_rfl) (by kernel_rfl) (fun _ _ _ h => h) (Or.inr ⟨?_, rfl⟩) (by assumption) ?_; go_simp; (try simp only [Act.put, List.setIfInBounds_toArray, List.set_cons_zero, List.set_cons_succ]))
          (refine WG.take (i := 16) rfl (by kernel_rfl) (by kernel_rfl) (by kernel_rfl) (by kernel_rfl) (fun _ _ _ h => h) (Or.inr ⟨?_, rfl⟩) (by assumption) ?_; go_simp; (try simp only [Act.put, List.setIfInBounds_toArray, List.set_cons_zero, List.set_cons_succ]))
          (refine WG.take (i := 17) rfl (by kernel_rfl) (by kernel_rfl) (by kernel_rfl) (by kernel_rfl) (fun _ _ _ h => h) (Or.inr ⟨?_, rfl⟩) (by assumption) ?_; go_simp; (try simp only [Act.put, List.setIfInBounds_toArray, List.set_cons_zero, List.set_cons_succ]))
          (refine WG.take (i := 18) rfl (by kernel_rfl) (by kernel_rfl) (by kernel_rfl) (by kernel_rfl) (fun _ _ _ h => h) (Or.inr ⟨?_, rfl⟩) (by assumption) ?_; go_simp; (try simp only [Act.put, List.setIfInBounds_toArray, List.set_cons_zero, List.set_cons_succ]))
          (refine WG.take (i := 19) rfl (by kernel_rfl) (by kernel_rfl) (by kernel_rfl) (by kernel_rfl) (fun _ _ _ h => h) (Or.inr ⟨?_, rfl⟩) (by assumption) ?_; go_simp; (try simp only [Act.put, List.setIfInBounds_toArray, List.set_cons_zero, List.set_cons_succ]))
          (refine WG.take (i := 20) rfl (by kernel_rfl) (by kernel_rfl) (by kernel_rfl) (by kernel_rfl) (fun _ _ _ h => h) (Or.inr ⟨?_, rfl⟩) (by assumption) ?_; go_simp; (try simp only [Act.put, List.setIfInBounds_toArray, List.set_cons_zero, List.set_cons_succ]))
          (refine WG.take (i := 21) rfl (by kernel_rfl) (by kernel_rfl) (by kernel_rfl) (by kernel_rfl) (fun _ _ _ h => h) (Or.inr ⟨?_, rfl⟩) (by assumption) ?_; go_simp; (try simp only [Act.put, List.setIfInBounds_toArray, List.set_cons_zero, List.set_cons_succ]))
          (refine WG.take (i := 22) rfl (by kernel_rfl) (by kernel_rfl) (by kernel_rfl) (by kernel_rfl) (fun _ _ _ h => h) (Or.inr ⟨?_, rfl⟩) (by assumption) ?_; go_simp; (try simp only [Act.put, List.setIfInBounds_toArray, List.set_cons_zero, List.set_cons_succ]))
          (refine WG.take (i := 23) rfl (by kernel_rfl) (by kernel_rfl) (by kernel_rfl) (by kernel_rfl) (fun _ _ _ h => h) (Or.inr ⟨?_, rfl⟩) (by assumption) ?_; go_simp; (try simp only [Act.put, List.setIfInBounds_toArray, List.set_cons_zero, List.set_cons_succ]))
          (refine WG.take (i := 24) rfl (by kernel_rfl) (by kernel_rfl) (by kernel_rfl) (by kernel_rfl) (fun _ _ _ h => h) (Or.inr ⟨?_, rfl⟩) (by assumption) ?_; go_simp; (try simp only [Act.put, List.setIfInBounds_toArray, List.set_cons_zero, List.set_cons_succ]))
          (refine WG.take (i := 25) rfl (by kernel_rfl) (by kernel_rfl) (by kernel_rfl) (by kernel_rfl) (fun _ _ _ h => h) (Or.inr ⟨?_, rfl⟩) (by assumption) ?_; go_simp; (try simp only [Act.put, List.setIfInBounds_toArray, List.set_cons_zero, List.set_cons_succ]))
          (refine WG.take (i := 26) (v := ?_) rfl (by kernel_rfl) (by kernel_rfl) (by kernel_rfl) (by kernel_rfl) (fun _ _ _ h => h) (Or.inl ⟨by rfl, ?_⟩) (by assumption) ?_; rotate_left; (intro w hSw; (try dsimp only at hSw); go_split_ands; go_simp; (try with_reducible rfl)); (try simp only [Act.put, List.setIfInBounds_toArray, List.set_cons_zero, List.set_cons_succ]))
          (refine WG.take (i := 27) (v := ?_) rfl (by kernel_rfl) (by kernel_rfl) (by kernel_rfl) (by kernel_rfl) (fun _ _ _ h => h) (Or.inl ⟨by rfl, ?_⟩) (by assumption) ?_; rotate_left; (intro w hSw; (try dsimp only at hSw); go_split_ands; go_simp; (try with_reducible rfl)); (try simp only [Act.put, List.setIfInBounds_toArray, List.set_cons_zero, List.set_cons_succ]))
          refine WG.done (by kernel_rfl) ?_
          go_wp2
          go_roundw
          case rel => exact ⟨k + 1, (k : Int), by omega, by go_num, rfl, hid (by rw [bestTo_new ey.out hf hb]; rfl), hid (HE.out.trans HE6.out)⟩
          case measure => simp [intOf]; omega
        | some j =>
          have hjk : j < k := (bestTo_some hb).1
          have hz : z = (j : Int) := by rw [HZ.out, hb]; rfl
          subst hz
          obtain ⟨b', o', yj, Aj, cj, hA, ej, c2, hnj⟩ := HGB.out j (by omega)
          injection hA with hA
          injection hA with h1 h2 _
          subst h1 h2
          have i2 : (j : Int) < (bs.length : Int) := by omega
          have i3 : ¬ (j : Int) < 0 := by omega
          have HYJG := hid (HBG.out yj (List.mem_of_getElem? ej.out))
          have HYJ := hid (RT.ext hnj (HEW.out.trans HE.out))
          have HM := hid (bestTo_more ey.out ej.out hf hb)
          have KC : Hid (∀ w', Ext wr w' → w'.cell? ⟨w.heap.size, 0, none⟩ = some (.int .i64 x.id) ∧ w'.cell? ⟨w.heap.size, 1, none⟩ = some (.slice An x.need.length cn) ∧ w'.cell? ⟨b, o + k, none⟩ = some (.slice Ak y.length ck) ∧ w'.cell? ⟨b, o + j, none⟩ = some (.slice Aj yj.length cj)) := hid fun w' hw => ⟨(KB.out _ (HE.out.trans hw)).1, (KB.out _ (HE.out.trans hw)).2, (HEW.out.trans (HE.out.trans hw)).cell HC1.out, (HEW.out.trans (HE.out.trans hw)).cell c2⟩
          clear c2 hnj
          by_cases hs : scoreL room yj x < scoreL room y x
          · go_wp2
            have HDr : Hid (Ext wr wr.drew) := hid (Below.drew (Below.refl _ _))
            refine WG.start (fun w' => w'.cell? ⟨w.heap.size, 0, none⟩ = some (.int .i64 x.id) ∧ w'.cell? ⟨w.heap.size, 1, none⟩ = some (.slice An x.need.length cn) ∧ w'.cell? ⟨b, o + k, none⟩ = some (.slice Ak y.length ck) ∧ w'.cell? ⟨b, o + j, none⟩ = some (.slice Aj yj.length cj)) [] (by kernel_rfl) (by exact KC.out _ HDr.out) (fun hHeld => ?_)
            obtain ⟨pz, hpz⟩ : ∃ x, x = wr.drew := ⟨_, rfl⟩
            rw [← hpz] at hHeld HDr ⊢
            clear hpz
            (refine WG.take (i := 0) (v := ?_) rfl (by kernel_rfl) (by kernel_rfl) (by kernel_rfl) (by kernel_rfl) (fun _ _ _ h => h) (Or.inl ⟨by rfl, ?_⟩) (by assumption) ?_; rotate_left; (intro w hSw; (try dsimp only at hSw); go_split_ands; go_simp; (try with_reducible rfl)); (try simp only [Act.put, List.setIfInBounds_toArray, List.set_cons_zero, List.set_cons_succ]))
            (refine WG.take (i := 1) (v := ?_) rfl (by kernel_rfl) (by kernel_rfl) (by kernel_rfl) (by kernel_rfl) (fun _ _ _ h => h) (Or.inl ⟨by rfl, ?_⟩) (by assumption) ?_; rotate_left; (intro w hSw; (try dsimp only at hSw); go_split_ands; go_simp; (try with_reducible rfl)); (try simp only [Act.put, List.setIfInBounds_toArray, List.set_cons_zero, List.set_cons_succ]))
            (refine WG.take (i := 2) (v := ?_) rfl (by kernel_rfl) (by kernel_rfl) (by kernel_rfl) (by kernel_rfl) (fun _ _ _ h => h) (Or.inl ⟨by rfl, ?_⟩) (by assumption) ?_; rotate_left; (intro w hSw; (try dsimp only at hSw); go_split_ands; go_simp; (try with_reducible rfl)); (try simp only [Act.put, List.setIfInBounds_toArray, List.set_cons_zero, List.set_cons_succ]))
            (refine WG.take (i := 3) (v := ?_) rfl (by kernel_rfl) (by kernel_rfl) (by kernel_rfl) (by kernel_rfl) (fun _ _ _ h => h) (Or.inl ⟨by rfl, ?_⟩) (by assumption) ?_; rotate_left; (intro w hSw; (try dsimp only at hSw); go_split_ands; go_simp; (try with_reducible rfl)); (try simp only [Act.put, List.setIfInBounds_toArray, List.set_cons_zero, List.set_cons_succ]))
            (refine WG.take (i := 4) (v := ?_) rfl (by kernel_rfl) (by kernel_rfl) (by kernel_rfl) (by kernel_rfl) (fun _ _ _ h => h) (Or.inl ⟨by rfl, ?_⟩) (by assumption) ?_; rotate_left; (intro w hSw; (try dsimp only at hSw); go_split_ands; go_simp; (try with_reducible rfl)); (try simp only [Act.put, List.setIfInBounds_toArray, List.set_cons_zero, List.set_cons_succ]))
            (refine WG.take (i := 5) (v := ?_) rfl (by kernel_rfl) (by kernel_rfl) (by kernel_rfl) (by kernel_rfl) (fun _ _ _ h => h) (Or.inl ⟨by rfl, ?_⟩) (by assumption) ?_; rotate_left; (intro w hSw; (try dsimp only at hSw); go_split_ands; go_simp; (try with_reducible rfl)); (try simp only [Act.put, List.setIfInBounds_toArray, List.set_cons_zero, List.set_cons_succ]))
            refine WG.one (i := 6) rfl (by kernel_rfl) (fun K hK => ?_)
            go_simp; refine (sL11Fits _ _ _ room y x _ (RI.ext HR1.out (HE.out.trans HDr.out)) (RT.ext HY.out HDr.out) ⟨_, rfl, RI.ext HN1.out (HE.out.trans HDr.out)⟩ HLR.out HYG.out HXG.out).mono ?_; rw [hf]; rintro e6 w6 ⟨rfl, hE6⟩; have HE6 := hid (HDr.out.trans hE6); clear hE6; (try dsimp only)
            refine hK.out _ _ (by exact KC.out _ HE6.out) (fun hHeld => ?_)
            clear hK K
            (try simp only [Act.put, List.setIfInBounds_toArray, List.set_cons_zero, List.set_cons_succ])
            (refine WG.take (i := 7) (v := ?_) rfl (by kernel_rfl) (by kernel_rfl) (by kernel_rfl) (by kernel_rfl) (fun _ _ _ h => h) (Or.inl ⟨by rfl, ?_⟩) (by assumption) ?_; rotate_left; (intro w hSw; (try dsimp only at hSw); go_split_ands; go_simp; (try with_reducible rfl)); (try simp only [Act.put, List.setIfInBounds_toArray, List.set_cons_zero, List.set_cons_succ]))
            (refine WG.take (i := 8) (v := ?_) rfl (by kernel_rfl) (by kernel_rfl) (by kernel_rfl) (by kernel_rfl) (fun _ _ _ h => h) (Or.inl ⟨by rfl, ?_⟩) (by assumption) ?_; rotate_left; (intro w hSw; (try dsimp only at hSw); go_split_ands; go_simp; (try with_reducible rfl)); (try simp only [Act.put, List.setIfInBounds_toArray, List.set_cons_zero, List.set_cons_succ]))
            (refine WG.take (i := 9) (v := ?_) rfl (by kernel_rfl) (by kernel_rfl) (by kernel_rfl) (by kernel_rfl) (fun _ _ _ h => h) (Or.inl ⟨by rfl, ?_⟩) (by assumption) ?_; rotate_left; (intro w hSw; (try dsimp only at hSw); go_split_ands; go_simp; (try with_reducible rfl)); (try simp only [Act.put, List.setIfInBounds_toArray, List.set_cons_zero, List.set_cons_succ]))
            (refine WG.take (i := 10) (v := ?_) rfl (by kernel_rfl) (by kernel_rfl) (by kernel_rfl) (by kernel_rfl) (fun _ _ _ h => h) (Or.inl ⟨by rfl, ?_⟩) (by assumption) ?_; rotate_left; (intro w hSw; (try dsimp only at hSw); go_split_ands; go_simp; (try with_reducible rfl)); (try simp only [Act.put, List.setIfInBounds_toArray, List.set_cons_zero, List.set_cons_succ]))
            (refine WG.take (i := 11) (v := ?_) rfl (by kernel_rfl) (by kernel_rfl) (by kernel_rfl) (by kernel_rfl) (fun _ _ _ h => h) (Or.inl ⟨by rfl, ?_⟩) (by assumption) ?_; rotate_left; (intro w hSw; (try dsimp only at hSw); go_split_ands; go_simp; (try with_reducible rfl)); (try simp only [Act.put, List.setIfInBounds_toArray, List.set_cons_zero, List.set_cons_succ]))
            (refine WG.take (i := 12) (v := ?_) rfl (by kernel_rfl) (by kernel_rfl) (by kernel_rfl) (by kernel_rfl) (fun _ _ _ h => h) (Or.inl ⟨by rfl, ?_⟩) (by assumption) ?_; rotate_left; (intro w hSw; (try dsimp only at hSw); go_split_ands; go_simp; (try with_reducible rfl)); (try simp only [Act.put, List.setIfInBounds_toArray, List.set_cons_zero, List.set_cons_succ]))
            (refine WG.take (i := 13) (v := ?_) rfl (by kernel_rfl) (by kernel_rfl) (by kernel_rfl) (by kernel_rfl) (fun _ _ _ h => h) (Or.inl ⟨by rfl, ?_⟩) (by assumption) ?_; rotate_left; (intro w hSw; (try dsimp only at hSw); go_split_ands; go_simp; (try with_reducible rfl)); (try simp only [Act.put, List.setIfInBounds_toArray, List.set_cons_zero, List.set_cons_succ]))
            (refine WG.take (i := 14) (v := ?_) rfl (by kernel_rfl) (by kernel_rfl) (by kernel_rfl) (by kernel_rfl) (fun _ _ _ h => h) (Or.inl ⟨by rfl, ?_⟩) (by assumption) ?_; rotate_left; (intro w hSw; (try dsimp only at hSw); go_split_ands; go_simp; (try with_reducible rfl)); (try simp only [Act.put, List.setIfInBounds_toArray, List.set_cons_zero, List.set_cons_succ]))
            (refine WG.take (i := 15) (v := ?_) rfl (by kernel_rfl) (by kernel_rfl) (by kernel_rfl) (by kernel_rfl) (fun _ _ _ h => h) (Or.inl ⟨by rfl, ?_⟩) (by assumption) ?_; rotate_left; (intro w hSw; (try dsimp only at hSw); go_split_ands; go_simp; (try with_reducible rfl)); (try simp only [Act.put, List.setIfInBounds_toArray, List.set_cons_zero, List.set_cons_succ]))
            (refine WG.take (i := 16) (v := ?_) rfl (by kernel_rfl) (by kernel_rfl) (by kernel_rfl) (by kernel_rfl) (fun _ _ _ h => h) (Or.inl ⟨by rfl, ?_⟩) (by assumption) ?_; rotate_left; (intro w hSw; (try dsimp only at hSw); go_split_ands; go_simp; (try with_reducible rfl)); (try simp only [Act.put, List.setIfInBounds_toArray, List.set_cons_zero, List.set_cons_succ]))
            (refine WG.take (i := 18) (v := ?_) rfl (by kernel_rfl) (by kernel_rfl) (by kernel_rfl) (by kernel_rfl) (fun _ _ _ h => h) (Or.inl ⟨by rfl, ?_⟩) (by assumption) ?_; rotate_left; (intro w hSw; (try dsimp only at hSw); go_split_ands; go_simp; (try with_reducible rfl)); (try simp only [Act.put, List.setIfInBounds_toArray, List.set_cons_zero, List.set_cons_succ]))
            (refine WG.take (i := 19) (v := ?_) rfl (by kernel_rfl) (by kernel_rfl) (by kernel_rfl) (by kernel_rfl) (fun _ _ _ h => h) (Or.inl ⟨by rfl, ?_⟩) (by assumption) ?_; rotate_left; (intro w hSw; (try dsimp only at hSw); go_split_ands; go_simp; (try with_reducible rfl)); (try simp only [Act.put, List.setIfInBounds_toArray, List.set_cons_zero, List.set_cons_succ]))
            (refine WG.take (i := 20) (v := ?_) rfl (by kernel_rfl) (by kernel_rfl) (by kernel_rfl) (by kernel_rfl) (fun _ _ _ h => h) (Or.inl ⟨by rfl, ?_⟩) (by assumption) ?_; rotate_left; (intro w hSw; (try dsimp only at hSw); go_split_ands; go_simp; (try with_reducible rfl)); (try simp only [Act.put, List.setIfInBounds_toArray, List.set_cons_zero, List.set_cons_succ]))
            (refine WG.take (i := 21) (v := ?_) rfl (by kernel_rfl) (by kernel_rfl) (by kernel_rfl) (by kernel_rfl) (fun _ _ _ h => h) (Or.inl ⟨by rfl, ?_⟩) (by assumption) ?_; rotate_left; (intro w hSw; (try dsimp only at hSw); go_split_ands; go_simp; (try with_reducible rfl)); (try simp only [Act.put, List.setIfInBounds_toArray, List.set_cons_zero, List.set_cons_succ]))
            (refine WG.take (i := 22) (v := ?_) rfl (by kernel_rfl) (by kernel_rfl) (by kernel_rfl) (by kernel_rfl) (fun _ _ _ h => h) (Or.inl ⟨by rfl, ?_⟩) (by assumption) ?_; rotate_left; (intro w hSw; (try dsimp only at hSw); go_split_ands; go_simp; (try with_reducible rfl)); (try simp only [Act.put, List.setIfInBounds_toArray, List.set_cons_zero, List.set_cons_succ]))
            (refine WG.take (i := 23) (v := ?_) rfl (by kernel_rfl) (by kernel_rfl) (by kernel_rfl) (by kernel_rfl) (fun _ _ _ h => h) (Or.inl ⟨by rfl, ?_⟩) (by assumption) ?_; rotate_left; (intro w hSw; (try dsimp only at hSw); go_split_ands; go_simp; (try with_reducible rfl)); (try simp only [Act.put, List.setIfInBounds_toArray, List.set_cons_zero, List.set_cons_succ]))
            refine WG.one (i := 17) rfl (by kernel_rfl) (fun K hK => ?_)
            go_simp; refine (sScore12 _ _ _ room y x _ (RI.ext HR1.out (HE.out.trans HE6.out)) (RT.ext HY.out HE6.out) ⟨_, rfl, RI.ext HN1.out (HE.out.trans HE6.out)⟩ HRV.out HYG.out HXV.out).mono ?_; rintro e7 w7 ⟨rfl, hE7⟩; have HE7 := hid (HE6.out.trans hE7); clear hE7; (try dsimp only)
            refine hK.out _ _ (by exact KC.out _ HE7.out) (fun hHeld => ?_)
            clear hK K
            (try simp only [Act.put, List.setIfInBounds_toArray, List.set_cons_zero, List.set_cons_succ])
            refine WG.one (i := 24) rfl (by kernel_rfl) (fun K hK => ?_)
            go_simp; refine (sScore12 _ _ _ room yj x _ (RI.ext HR1.out (HE.out.trans HE7.out)) (RT.ext HYJ.out HE7.out) ⟨_, rfl, RI.ext HN1.out (HE.out.trans HE7.out)⟩ HRV.out HYJG.out HXV.out).mono ?_; rintro e8 w8 ⟨rfl, hE8⟩; have HE8 := hid (HE7.out.trans hE8); clear hE8; (try dsimp only)
            refine hK.out _ _ (by exact KC.out _ HE8.out) (fun hHeld => ?_)
            clear hK K
            (try simp only [Act.put, List.setIfInBounds_toArray, List.set_cons_zero, List.set_cons_succ])
            (refine WG.take (i := 25) (v := ?_) rfl (by kernel_rfl) (by kernel_rfl) (by kernel_rfl) (by kernel_rfl) (fun _ _ _ h => h) (Or.inl ⟨by rfl, ?_⟩) (by assumption) ?_; rotate_left; (intro w hSw; (try dsimp only at hSw); go_split_ands; go_simp; (try with_reducible rfl)); (try simp only [Act.put, List.setIfInBounds_toArray, List.set_cons_zero, List.set_cons_succ]))
            (refine WG.take (i := 26) (v := ?_) rfl (by kernel_rfl) (by kernel_rfl) (by kernel_rfl) (by kernel_rfl) (fun _ _ _ h => h) (Or.inl ⟨by rfl, ?_⟩) (by assumption) ?_; rotate_left; (intro w hSw; (try dsimp only at hSw); go_split_ands; go_simp; (try with_reducible rfl)); (try simp only [Act.put, List.setIfInBounds_toArray, List.set_cons_zero, List.set_cons_succ]))
            (refine WG.take (i := 27) (v := ?_) rfl (by kernel_rfl) (by kernel_rfl) (by kernel_rfl) (by kernel_rfl) (fun _ _ _ h => h) (Or.inl ⟨by rfl, ?_⟩) (by assumption) ?_; rotate_left; (intro w hSw; (try dsimp only at hSw); go_split_ands; go_simp; (try with_reducible rfl)); (try simp only [Act.put, List.setIfInBounds_toArray, List.set_cons_zero, List.set_cons_succ]))
            refine WG.done (by kernel_rfl) ?_
            go_wp2
            go_roundw
            case rel => exact ⟨k + 1, (k : Int), by omega, by go_num, rfl, hid (by rw [HM.out, if_pos hs]; rfl), hid (HE.out.trans HE8.out)⟩
            case measure => simp [intOf]; omega
          · go_wp2
            have HDr : Hid (Ext wr wr.drew) := hid (Below.drew (Below.refl _ _))
            refine WG.start (fun w' => w'.cell? ⟨w.heap.size, 0, none⟩ = some (.int .i64 x.id) ∧ w'.cell? ⟨w.heap.size, 1, none⟩ = some (.slice An x.need.length cn) ∧ w'.cell? ⟨b, o + k, none⟩ = some (.slice Ak y.length ck) ∧ w'.cell? ⟨b, o + j, none⟩ = some (.slice Aj yj.length cj)) [] (by kernel_rfl) (by exact KC.out _ HDr.out) (fun hHeld => ?_)
            obtain ⟨pz, hpz⟩ : ∃ x, x = wr.drew := ⟨_, rfl⟩
            rw [← hpz] at hHeld HDr ⊢
            clear hpz
            (refine WG.take (i := 0) (v := ?_) rfl (by kernel_rfl) (by kernel_rfl) (by kernel_rfl) (by kernel_rfl) (fun _ _ _ h => h) (Or.inl ⟨by rfl, ?_⟩) (by assumption) ?_; rotate_left; (intro w hSw; (try dsimp only at hSw); go_split_ands; go_simp; (try with_reducible rfl)); (try simp only [Act.put, List.setIfInBounds_toArray, List.set_cons_zero, List.set_cons_succ]))
            (refine WG.take (i := 1) (v := ?_) rfl (by kernel_rfl) (by kernel_rfl) (by kernel_rfl) (by kernel_rfl) (fun _ _ _ h => h) (Or.inl ⟨by rfl, ?_⟩) (by assumption) ?_; rotate_left; (intro w hSw; (try dsimp only at hSw); go_split_ands; go_simp; (try with_reducible rfl)); (try simp only [Act.put, List.setIfInBounds_toArray, List.set_cons_zero, List.set_cons_succ]))
            (refine WG.take (i := 2) (v := ?_) rfl (by kernel_rfl) (by kernel_rfl) (by kernel_rfl) (by kernel_rfl) (fun _ _ _ h => h) (Or.inl ⟨by rfl, ?_⟩) (by assumption) ?_; rotate_left; (intro w hSw; (try dsimp only at hSw); go_split_ands; go_simp; (try with_reducible rfl)); (try simp only [Act.put, List.setIfInBounds_toArray, List.set_cons_zero, List.set_cons_succ]))
            (refine WG.take (i := 3) (v := ?_) rfl (by kernel_rfl) (by kernel_rfl) (by kernel_rfl) (by kernel_rfl) (fun _ _ _ h => h) (Or.inl ⟨by rfl, ?_⟩) (by assumption) ?_; rotate_left; (intro w hSw; (try dsimp only at hSw); go_split_ands; go_simp; (try with_reducible rfl)); (try simp only [Act.put, List.setIfInBounds_toArray, List.set_cons_zero, List.set_cons_succ]))
            (refine WG.take (i := 4) (v := ?_) rfl (by kernel_rfl) (by kernel_rfl) (by kernel_rfl) (by kernel_rfl) (fun _ _ _ h => h) (Or.inl ⟨by rfl, ?_⟩) (by assumption) ?_; rotate_left; (intro w hSw; (try dsimp only at hSw); go_split_ands; go_simp; (try with_reducible rfl)); (try simp only [Act.put, List.setIfInBounds_toArray, List.set_cons_zero, List.set_cons_succ]))
            (refine WG.take (i := 5) (v := ?_) rfl (by kernel_rfl) (by kernel_rfl) (by kernel_rfl) (by kernel_rfl) (fun _ _ _ h => h) (Or.inl ⟨by rfl, ?_⟩) (by assumption) ?_; rotate_left; (intro w hSw; (try dsimp only at hSw); go_split_ands; go_simp; (try with_reducible rfl)); (try simp only [Act.put, List.setIfInBounds_toArray, List.set_cons_zero, List.set_cons_succ]))
            refine WG.one (i := 6) rfl (by kernel_rfl) (fun K hK => ?_)
            go_simp; refine (sL11Fits _ _ _ room y x _ (RI.ext HR1.out (HE.out.trans HDr.out)) (RT.ext HY.out HDr.out) ⟨_, rfl, RI.ext HN1.out (HE.out.trans HDr.out)⟩ HLR.out HYG.out HXG.out).mono ?_; rw [hf]; rintro e6 w6 ⟨rfl, hE6⟩; have HE6 := hid (HDr.out.trans hE6); clear hE6; (try dsimp only)
            refine hK.out _ _ (by exact KC.out _ HE6.out) (fun hHeld => ?_)
            clear hK K
            (try simp only [Act.put, List.setIfInBounds_toArray, List.set_cons_zero, List.set_cons_succ])
            (refine WG.take (i := 7) (v := ?_) rfl (by kernel_rfl) (by kernel_rfl) (by kernel_rfl) (by kernel_rfl) (fun _ _ _ h => h) (Or.inl ⟨by rfl, ?_⟩) (by assumption) ?_; rotate_left; (intro w hSw; (try dsimp only at hSw); go_split_ands; go_simp; (try with_reducible rfl)); (try simp only [Act.put, List.setIfInBounds_toArray, List.set_cons_zero, List.set_cons_succ]))
            (refine WG.take (i := 8) (v := ?_) rfl (by kernel_rfl) (by kernel_rfl) (by kernel_rfl) (by kernel_rfl) (fun _ _ _ h => h) (Or.inl ⟨by rfl, ?_⟩) (by assumption) ?_; rotate_left; (intro w hSw; (try dsimp only at hSw); go_split_ands; go_simp; (try with_reducible rfl)); (try simp only [Act.put, List.setIfInBounds_toArray, List.set_cons_zero, List.set_cons_succ]))
            (refine WG.take (i := 9) (v := ?_) rfl (by kernel_rfl) (by kernel_rfl) (by kernel_rfl) (by kernel_rfl) (fun _ _ _ h => h) (Or.inl ⟨by rfl, ?_⟩) (by assumption) ?_; rotate_left; (intro w hSw; (try dsimp only at hSw); go_split_ands; go_simp; (try with_reducible rfl)); (try simp only [Act.put, List.setIfInBounds_toArray, List.set_cons_zero, List.set_cons_succ]))
            (refine WG.take (i := 10) (v := ?_) rfl (by kernel_rfl) (by kernel_rfl) (by kernel_rfl) (by kernel_rfl) (fun _ _ _ h => h) (Or.inl ⟨by rfl, ?_⟩) (by assumption) ?_; rotate_left; (intro w hSw; (try dsimp only at hSw); go_split_ands; go_simp; (try with_reducible rfl)); (try simp only [Act.put, List.setIfInBounds_toArray, List.set_cons_zero, List.set_cons_succ]))
            (refine WG.take (i := 11) (v := ?_) rfl (by kernel_rfl) (by kernel_rfl) (by kernel_rfl) (by kernel_rfl) (fun _ _ _ h => h) (Or.inl ⟨by rfl, ?_⟩) (by assumption) ?_; rotate_left; (intro w hSw; (try dsimp only at hSw); go_split_ands; go_simp; (try with_reducible rfl)); (try simp only [Act.put, List.setIfInBounds_toArray, List.set_cons_zero, List.set_cons_succ]))
            (refine WG.take (i := 12) (v := ?_) rfl (by kernel_rfl) (by kernel_rfl) (by kernel_rfl) (by kernel_rfl) (fun _ _ _ h => h) (Or.inl ⟨by rfl, ?_⟩) (by assumption) ?_; rotate_left; (intro w hSw; (try dsimp only at hSw); go_split_ands; go_simp; (try with_reducible rfl)); (try simp only [Act.put, List.setIfInBounds_toArray, List.set_cons_zero, List.set_cons_succ]))
            (refine WG.take (i := 13) (v := ?_) rfl (by kernel_rfl) (by kernel_rfl) (by kernel_rfl) (by kernel_rfl) (fun _ _ _ h => h) (Or.inl ⟨by rfl, ?_⟩) (by assumption) ?_; rotate_left; (intro w hSw; (try dsimp only at hSw); go_split_ands; go_simp; (try with_reducible rfl)); (try simp only [Act.put, List.setIfInBounds_toArray, List.set_cons_zero, List.set_cons_succ]))
            (refine WG.take (i := 14) (v := ?_) rfl (by kernel_rfl) (by kernel_rfl) (by kernel_rfl) (by kernel_rfl) (fun _ _ _ h => h) (Or.inl ⟨by rfl, ?_⟩) (by assumption) ?_; rotate_left; (intro w hSw; (try dsimp only at hSw); go_split_ands; go_simp; (try with_reducible rfl)); (try simp only [Act.put, List.setIfInBounds_toArray, List.set_cons_zero, List.set_cons_succ]))
            (refine WG.take (i := 15) (v := ?_) rfl (by kernel_rfl) (by kernel_rfl) (by kernel_rfl) (by kernel_rfl) (fun _ _ _ h => h) (Or.inl ⟨by rfl, ?_⟩) (by assumption) ?_; rotate_left; (intro w hSw; (try dsimp only at hSw); go_split_ands; go_simp; (try with_reducible rfl)); (try simp only [Act.put, List.setIfInBounds_toArray, List.set_cons_zero, List.set_cons_succ]))
            (refine WG.take (i := 16) (v := ?_) rfl (by kernel_rfl) (by kernel_rfl) (by kernel_rfl) (by kernel_rfl) (fun _ _ _ h => h) (Or.inl ⟨by rfl, ?_⟩) (by assumption) ?_; rotate_left; (intro w hSw; (try dsimp only at hSw); go_split_ands; go_simp; (try with_reducible rfl)); (try simp only [Act.put, List.setIfInBounds_toArray, List.set_cons_zero, List.set_cons_succ]))
            (refine WG.take (i := 18) (v := ?_) rfl (by kernel_rfl) (by kernel_rfl) (by kernel_rfl) (by kernel_rfl) (fun _ _ _ h => h) (Or.inl ⟨by rfl, ?_⟩) (by assumption) ?_; rotate_left; (intro w hSw; (try dsimp only at hSw); go_split_ands; go_simp; (try with_reducible rfl)); (try simp only [Act.put, List.setIfInBounds_toArray, List.set_cons_zero, List.set_cons_succ]))
            (refine WG.take (i := 19) (v := ?_) rfl (by kernel_rfl) (by kernel_rfl) (by kernel_rfl) (by kernel_rfl) (fun _ _ _ h => h) (Or.inl ⟨by rfl, ?_⟩) (by assumption) ?_; rotate_left; (intro w hSw; (try dsimp only at hSw); go_split_ands; go_simp; (try with_reducible rfl)); (try simp only [Act.put, List.setIfInBounds_toArray, List.set_cons_zero, List.set_cons_succ]))
            (refine WG.take (i := 20) (v := ?_) rfl (by kernel_rfl) (by kernel_rfl) (by kernel_rfl) (by kernel_rfl) (fun _ _ _ h => h) (Or.inl ⟨by rfl, ?_⟩) (by assumption) ?_; rotate_left; (intro w hSw; (try dsimp only at hSw); go_split_ands; go_simp; (try with_reducible rfl)); (try simp only [Act.put, List.setIfInBounds_toArray, List.set_cons_zero, List.set_cons_succ]))
            (refine WG.take (i := 21) (v := ?_) rfl (by kernel_rfl) (by kernel_rfl) (by kernel_rfl) (by kernel_rfl) (fun _ _ _ h => h) (Or.inl ⟨by rfl, ?_⟩) (by assumption) ?_; rotate_left; (intro w hSw; (try dsimp only at hSw); go_split_ands; go_simp; (try with_reducible rfl)); (try simp only [Act.put, List.setIfInBounds_toArray, List.set_cons_zero, List.set_cons_succ]))
            (refine WG.take (i := 22) (v := ?_) rfl (by kernel_rfl) (by kernel_rfl) (by kernel_rfl) (by kernel_rfl) (fun _ _ _ h => h) (Or.inl ⟨by rfl, ?_⟩) (by assumption) ?_; rotate_left; (intro w hSw; (try dsimp only at hSw); go_split_ands; go_simp; (try with_reducible rfl)); (try simp only [Act.put, List.setIfInBounds_toArray, List.set_cons_zero, List.set_cons_succ]))
            (refine WG.take (i := 23) (v := ?_) rfl (by kernel_rfl) (by kernel_rfl) (by kernel_rfl) (by kernel_rfl) (fun _ _ _ h => h) (Or.inl ⟨by rfl, ?_⟩) (by assumption) ?_; rotate_left; (intro w hSw; (try dsimp only at hSw); go_split_ands; go_simp; (try with_reducible rfl)); (try simp only [Act.put, List.setIfInBounds_toArray, List.set_cons_zero, List.set_cons_succ]))
            refine WG.one (i := 17) rfl (by kernel_rfl) (fun K hK => ?_)
            go_simp; refine (sScore12 _ _ _ room y x _ (RI.ext HR1.out (HE.out.trans HE6.out)) (RT.ext HY.out HE6.out) ⟨_, rfl, RI.ext HN1.out (HE.out.trans HE6.out)⟩ HRV.out HYG.out HXV.out).mono ?_; rintro e7 w7 ⟨rfl, hE7⟩; have HE7 := hid (HE6.out.trans hE7); clear hE7; (try dsimp only)
            refine hK.out _ _ (by exact KC.out _ HE7.out) (fun hHeld => ?_)
            clear hK K
            (try simp only [Act.put, List.setIfInBounds_toArray, List.set_cons_zero, List.set_cons_succ])
            refine WG.one (i := 24) rfl (by kernel_rfl) (fun K hK => ?_)
            go_simp; refine (sScore12 _ _ _ room yj x _ (RI.ext HR1.out (HE.out.trans HE7.out)) (RT.ext HYJ.out HE7.out) ⟨_, rfl, RI.ext HN1.out (HE.out.trans HE7.out)⟩ HRV.out HYJG.out HXV.out).mono ?_; rintro e8 w8 ⟨rfl, hE8⟩; have HE8 := hid (HE7.out.trans hE8); clear hE8; (try dsimp only)
            refine hK.out _ _ (by exact KC.out _ HE8.out) (fun hHeld => ?_)
            clear hK K
            (try simp only [Act.put, List.setIfInBounds_toArray, List.set_cons_zero, List.set_cons_succ])
            (refine WG.take (i := 25) (v := ?_) rfl (by kernel_rfl) (by kernel_rfl) (by kernel_rfl) (by kernel_rfl) (fun _ _ _ h => h) (Or.inl ⟨by rfl, ?_⟩) (by assumption) ?_; rotate_left; (intro w hSw; (try dsimp only at hSw); go_split_ands; go_simp; (try with_reducible rfl)); (try simp only [Act.put, List.setIfInBounds_toArray, List.set_cons_zero, List.set_cons_succ]))
            (refine WG.take (i := 26) (v := ?_) rfl (by kernel_rfl) (by kernel_rfl) (by kernel_rfl) (by kernel_rfl) (fun _ _ _ h => h) (Or.inl ⟨by rfl, ?_⟩) (by assumption) ?_; rotate_left; (intro w hSw; (try dsimp only at hSw); go_split_ands; go_simp; (try with_reducible rfl)); (try simp only [Act.put, List.setIfInBounds_toArray, List.set_cons_zero, List.set_cons_succ]))
            (refine WG.take (i := 27) (v := ?_) rfl (by kernel_rfl) (by kernel_rfl) (by kernel_rfl) (by kernel_rfl) (fun _ _ _ h => h) (Or.inl ⟨by rfl, ?_⟩) (by assumption) ?_; rotate_left; (intro w hSw; (try dsimp only at hSw); go_split_ands; go_simp; (try with_reducible rfl)); (try simp only [Act.put, List.setIfInBounds_toArray, List.set_cons_zero, List.set_cons_succ]))
            refine WG.done (by kernel_rfl) ?_
            go_wp2
            go_roundw
            case rel => exact ⟨k + 1, (j : Int), by omega, by go_num, rfl, hid (by rw [HM.out, if_neg (Int.not_lt.2 hs)]; rfl), hid (HE.out.trans HE8.out)⟩
            case measure => simp [intOf]; omega
    · have hk' : k = bs.length := by omega
      have hR : Hid (z = bestAt room bs x) := hid (by rw [HZ.out, hk']; rfl)
      clear hk'
      go_wp2
      go_ret
      exact ⟨ret_i hR.out, HEW.out.trans HE.out⟩

set_option maxHeartbeats 4000000 in
theorem sBestAll (rv tv : Value) (room : List Int) (ts : List TaskD) (w : World) (hR : RI w rv room) (h : RT w tv ts) :
    Calls Try.prog 54 #[rv, tv] w (RetRB w (bestAllN room ts)) := by
  have HR := hid hR
  have HT := hid h
  obtain ⟨Ar, cr, rfl, _⟩ := hR
  obtain ⟨At, ct, rfl, _, _, hg⟩ := RT.get h
  have HG := hid hg
  obtain ⟨W, hW⟩ : ∃ W, W = w.alloc (.cells #[] 28) := ⟨_, rfl⟩
  have hEW : Ext w W := by rw [hW]; exact Ext.alloc _ _
  have HEW := hid hEW
  have HO0 : Hid (RB W (.slice (some ⟨w.heap.size, 0, none⟩) 0 0) []) := hid (RSl.nil_ _ _ _ _ _ _ (by omega))
  clear hEW h hg
  cases hq : tasksOk room ts with
  | true =>
    have HRS : Hid (bestAllN room ts = allBy (fun bs x => bestAt room bs x) ts) := hid (by unfold bestAllN; rw [hq]; rfl)
    have HQ1 := hid hq
    have HSM := hid (fun k => bins_small (allBy_ok (chooses_best room) (tasks_sub (List.take_sublist k ts) hq)))
    have HRW := hid (fun k => bins_rows (allBy_ok (chooses_best room) (tasks_sub (List.take_sublist k ts) hq)))
    have HGT := hid (tasksOk_good hq)
    have HVV := hid (tasksOk_all hq).1
    have HRV := hid (roomOk_vec (tasksOk_room hq))
    clear hq
    go_enter Try.func54, Try.ntmps54
    go_wp2
    rw [← hW]
    clear hW
    go_loopw [5, 6] (fun o i wr => ∃ (u : Value) (k : Nat), u = o ∧ k ≤ ts.length ∧ i = .int .i64 k ∧ Hid (RB wr u (allBy (fun bs x => bestAt room bs x) (ts.take k)) ∧ Ext w wr)) (fun _ i _ => ts.length - (intOf i).toNat)
    case atStart => exact ⟨_, 0, rfl, Nat.zero_le _, rfl, hid ⟨HO0.out, HEW.out⟩⟩
    case round =>
      obtain ⟨u, k, rfl, hk, rfl, H⟩ := hrel
      by_cases hlt : k < ts.length
      · obtain ⟨b, o, x, An, cn, rfl, e, c0, c1, hnx⟩ := HG.out k hlt
        have i1 : (k : Int) < (ts.length : Int) := by omega
        have i0 : (0 : Int) ≤ (k : Int) := by omega
        have HBR := hid H.out.1
        have HE := hid H.out.2
        have HNX := hid (RI.ext hnx HE.out)
        have HXG := hid (HGT.out.2 x (List.mem_of_getElem? e.out))
        have HXV := hid (HVV.out x (List.mem_of_getElem? e.out))
        have HST := hid (allBy_take_succ (fun bs x => bestAt room bs x) e.out)
        obtain ⟨Bs, hBs⟩ : ∃ Bs, Bs = allBy (fun bs x => bestAt room bs x) (ts.take k) := ⟨_, rfl⟩
        have HSK := hid (hBs ▸ HSM.out k)
        have HRK := hid (hBs ▸ HRW.out k)
        rw [← hBs] at HBR HST
        obtain ⟨Au, cu, hu⟩ := bin_row HBR.out
        subst hu
        have KB : Hid (∀ w', Ext wr w' → w'.cell? ⟨b, o + k * 2, none⟩ = some (.int .i64 x.id) ∧ w'.cell? ⟨b, o + k * 2 + 1, none⟩ = some (.slice An x.need.length cn)) := hid fun w' hw => ⟨(HE.out.trans hw).cell c0, (HE.out.trans hw).cell c1⟩
        obtain ⟨zz, hzz⟩ : ∃ zz, zz = bestAt room Bs x := ⟨_, rfl⟩
        have HZC : Hid (zz < 0 ∨ ∃ (k : Nat) (b : List TaskD), zz = (k : Int) ∧ Bs[k]? = some b ∧ l11fits room b x = true) := hid (by rw [hzz]; exact chooses_best room Bs x)
        have HZZ := hid hzz
        clear hBs H c0 c1 hnx hzz
        go_wp2_with (go_at_call 23; refine (sTasksValid _ _ room ts _ (RI.ext HR.out HE.out) (RT.ext HT.out HE.out)).mono ?_; rintro e w2 ⟨rfl, n1, hw1⟩; rw [HQ1.out]; have HE2 : Hid (Ext wr w2) := hid (by rw [hw1]; exact Ext.drewN _ _); clear hw1)
        have HDr := hid (HE2.out.trans (Below.drew (Below.refl _ _)))
        refine WG.start (fun w' => w'.cell? ⟨b, o + k * 2, none⟩ = some (.int .i64 x.id) ∧ w'.cell? ⟨b, o + k * 2 + 1, none⟩ = some (.slice An x.need.length cn)) [12,13] (by kernel_rfl) (by exact KB.out _ HDr.out) (fun hHeld => ?_)
        obtain ⟨pz, hpz⟩ : ∃ x, x = w2.drew := ⟨_, rfl⟩
        rw [← hpz] at hHeld HDr ⊢
        clear hpz
        (refine WG.take (i := 0) (v := ?_) rfl (by kernel_rfl) (by kernel_rfl) (by kernel_rfl) (by kernel_rfl) (fun _ _ _ h => h) (Or.inl ⟨by rfl, ?_⟩) (by assumption) ?_; rotate_left; (intro w hSw; (try dsimp only at hSw); go_split_ands; go_simp; (try with_reducible rfl)); (try simp only [Act.put, List.setIfInBounds_toArray, List.set_cons_zero, List.set_cons_succ]))
        (refine WG.take (i := 1) (v := ?_) rfl (by kernel_rfl) (by kernel_rfl) (by kernel_rfl) (by kernel_rfl) (fun _ _ _ h => h) (Or.inl ⟨by rfl, ?_⟩) (by assumption) ?_; rotate_left; (intro w hSw; (try dsimp only at hSw); go_split_ands; go_simp; (try with_reducible rfl)); (try simp only [Act.put, List.setIfInBounds_toArray, List.set_cons_zero, List.set_cons_succ]))
        (refine WG.take (i := 2) (v := ?_) rfl (by kernel_rfl) (by kernel_rfl) (by kernel_rfl) (by kernel_rfl) (fun _ _ _ h => h) (Or.inl ⟨by rfl, ?_⟩) (by assumption) ?_; rotate_left; (intro w hSw; (try dsimp only at hSw); go_split_ands; go_simp; (try with_reducible rfl)); (try simp only [Act.put, List.setIfInBounds_toArray, List.set_cons_zero, List.set_cons_succ]))
        (refine WG.take (i := 3) (v := ?_) rfl (by kernel_rfl) (by kernel_rfl) (by kernel_rfl) (by kernel_rfl) (fun _ _ _ h => h) (Or.inl ⟨by rfl, ?_⟩) (by assumption) ?_; rotate_left; (intro w hSw; (try dsimp only at hSw); go_split_ands; go_simp; (try with_reducible rfl)); (try simp only [Act.put, List.setIfInBounds_toArray, List.set_cons_zero, List.set_cons_succ]))
        (refine WG.take (i := 4) (v := ?_) rfl (by kernel_rfl) (by kernel_rfl) (by kernel_rfl) (by kernel_rfl) (fun _ _ _ h => h) (Or.inl ⟨by rfl, ?_⟩) (by assumption) ?_; rotate_left; (intro w hSw; (try dsimp only at hSw); go_split_ands; go_simp; (try with_reducible rfl)); (try simp only [Act.put, List.setIfInBounds_toArray, List.set_cons_zero, List.set_cons_succ]))
        (refine WG.take (i := 5) (v := ?_) rfl (by kernel_rfl) (by kernel_rfl) (by kernel_rfl) (by kernel_rfl) (fun _ _ _ h => h) (Or.inl ⟨by rfl, ?_⟩) (by assumption) ?_; rotate_left; (intro w hSw; (try dsimp only at hSw); go_split_ands; go_simp; (try with_reducible rfl)); (try simp only [Act.put, List.setIfInBounds_toArray, List.set_cons_zero, List.set_cons_succ]))
        (refine WG.take (i := 6) (v := ?_) rfl (by kernel_rfl) (by kernel_rfl) (by kernel_rfl) (by kernel_rfl) (fun _ _ _ h => h) (Or.inl ⟨by rfl, ?_⟩) (by assumption) ?_; rotate_left; (intro w hSw; (try dsimp only at hSw); go_split_ands; go_simp; (try with_reducible rfl)); (try simp only [Act.put, List.setIfInBounds_toArray, List.set_cons_zero, List.set_cons_succ]))
        (refine WG.take (i := 8) (v := ?_) rfl (by kernel_rfl) (by kernel_rfl) (by kernel_rfl) (by kernel_rfl) (fun _ _ _ h => h) (Or.inl ⟨by rfl, ?_⟩) (by assumption) ?_; rotate_left; (intro w hSw; (try dsimp only at hSw); go_split_ands; go_simp; (try with_reducible rfl)); (try simp only [Act.put, List.setIfInBounds_toArray, List.set_cons_zero, List.set_cons_succ]))
        (refine WG.take (i := 9) (v := ?_) rfl (by kernel_rfl) (by kernel_rfl) (by kernel_rfl) (by kernel_rfl) (fun _ _ _ h => h) (Or.inl ⟨by rfl, ?_⟩) (by assumption) ?_; rotate_left; (intro w hSw; (try dsimp only at hSw); go_split_ands; go_simp; (try with_reducible rfl)); (try simp only [Act.put, List.setIfInBounds_toArray, List.set_cons_zero, List.set_cons_succ]))
        (refine WG.take (i := 10) (v := ?_) rfl (by kernel_rfl) (by kernel_rfl) (by kernel_rfl) (by kernel_rfl) (fun _ _ _ h => h) (Or.inl ⟨by rfl, ?_⟩) (by assumption) ?_; rotate_left; (intro w hSw; (try dsimp only at hSw); go_split_ands; go_simp; (try with_reducible rfl)); (try simp only [Act.put, List.setIfInBounds_toArray, List.set_cons_zero, List.set_cons_succ]))
        (refine WG.take (i := 11) (v := ?_) rfl (by kernel_rfl) (by kernel_rfl) (by kernel_rfl) (by kernel_rfl) (fun _ _ _ h => h) (Or.inl ⟨by rfl, ?_⟩) (by assumption) ?_; rotate_left; (intro w hSw; (try dsimp only at hSw); go_split_ands; go_simp; (try with_reducible rfl)); (try simp only [Act.put, List.setIfInBounds_toArray, List.set_cons_zero, List.set_cons_succ]))
        refine WG.one (i := 7) rfl (by kernel_rfl) (fun K hK => ?_)
        go_simp; refine (sAt12 _ _ _ room Bs x _ (RI.ext HR.out (HE.out.trans HDr.out)) (RB.ext HBR.out HDr.out) ⟨_, rfl, RI.ext HNX.out HDr.out⟩ HRV.out (fun b hb => (HSK.out.2.2.2 b hb).1) HXG.out HXV.out).mono ?_; rw [← HZZ.out]; rintro e6 w6 ⟨rfl, hE6⟩; have HE6 := hid (HDr.out.trans hE6); clear hE6; (try dsimp only)
        refine hK.out _ _ (by exact KB.out _ HE6.out) (fun hHeld => ?_)
        clear hK K
        (try simp only [Act.put, List.setIfInBounds_toArray, List.set_cons_zero, List.set_cons_succ])
        refine WG.last (i := 12) rfl (by kernel_rfl) (by kernel_rfl) (fun K hK => ?_)
        go_simp; refine (sPut _ _ room Bs zz x _ (RB.ext HBR.out HE6.out) ⟨_, rfl, RI.ext HNX.out HE6.out⟩ HZC.out (by have := HSK.out.2.1; omega) HRK.out.2.2 (by have := HXG.out.1; omega)).mono ?_; rintro e7 w7 ⟨v7, rfl, hB7, hE7⟩; have HB7 := hid hB7; have HE7 := hid (HE6.out.trans hE7); clear hB7 hE7; (try dsimp only)
        refine hK.out _ _ ?_
        clear hK K
        (try simp only [Act.put, List.setIfInBounds_toArray, List.set_cons_zero, List.set_cons_succ])
        refine WG.last (i := 13) rfl (by kernel_rfl) (by kernel_rfl) (fun K hK => ?_)
        go_simp
        refine hK.out _ _ ?_
        clear hK K
        (try simp only [Act.put, List.setIfInBounds_toArray, List.set_cons_zero, List.set_cons_succ])
        refine WG.done (by kernel_rfl) ?_
        go_wp2
        go_roundw
        case rel => exact ⟨_, k + 1, rfl, by omega, by go_num, hid ⟨by rw [HST.out, ← HZZ.out]; exact HB7.out, HE.out.trans HE7.out⟩⟩
        case measure => simp [intOf]; omega
      · have hk' : k = ts.length := by omega
        have HK := hid hk'
        clear hk'
        go_wp2
        go_ret
        have h1 := H.out.1
        rw [HK.out, List.take_length] at h1
        exact ⟨_, rfl, by rw [HRS.out]; exact h1, H.out.2⟩
  | false =>
    have HRS : Hid (bestAllN room ts = []) := hid (by unfold bestAllN; rw [hq]; rfl)
    go_enter Try.func54, Try.ntmps54
    go_wp2
    rw [← hW]
    clear hW
    refine wp_loop_rounds 1 ?_
    rw [rounds_succ]
    by_cases hlt : 0 < ts.length
    · have i1 : (0 : Int) < (ts.length : Int) := by omega
      go_wp2_with (go_at_call 23; refine (sTasksValid _ _ room ts _ (RI.ext HR.out HEW.out) (RT.ext HT.out HEW.out)).mono ?_; rintro e w1 ⟨rfl, n1, hw1⟩; rw [hq]; have HE1 : Hid (Ext W w1) := hid (by rw [hw1]; exact Ext.drewN _ _); clear hw1)
      go_ret
      exact ⟨_, rfl, by rw [HRS.out]; exact RB.ext HO0.out HE1.out, HEW.out.trans HE1.out⟩
    · have i1 : ts.length = 0 := by omega
      go_wp2
      go_ret
      exact ⟨_, rfl, by rw [HRS.out]; exact HO0.out, HEW.out⟩

end Go.Proofs.Ytllchacophapoaa

/- The reference's order of tasks. -/
namespace Go.Proofs.Ytllchacophapoaa
open Go.RowKit
set_option maxRecDepth 4000

theorem sSum4 (v : Value) (xs : List Int) (w : World) (h : RI w v xs) (hv : vecOk xs = true) : Calls Try.prog 110 #[v] w (RetN w (sumL xs)) :=
  (sL4Sum v xs w h ((vecOk_bd hv).mono (by omega)) (by rw [vecOk_len hv]; omega)).mono (by rintro e w' ⟨he, n, hw⟩; exact ⟨he, by rw [hw]; exact Ext.drewN _ _⟩)

set_option maxHeartbeats 1000000 in
theorem sBefore4 (xv yv : Value) (x y : TaskD) (w : World) (hx : TaskV w xv x) (hy : TaskV w yv y) (vx : vecOk x.need = true) (vy : vecOk y.need = true) :
    Calls Try.prog 96 #[xv, yv] w (RetB w (beforeT x y)) := by
  obtain ⟨nx, rfl, hnx⟩ := hx
  obtain ⟨ny, rfl, hny⟩ := hy
  obtain ⟨Ax, cx, rfl, _⟩ := RI.get hnx
  obtain ⟨Ay, cy, rfl, _⟩ := RI.get hny
  obtain ⟨W, hW⟩ : ∃ W, W = (w.alloc (.cells #[.int .i64 x.id, .slice Ax x.need.length cx] 43)).alloc (.cells #[.int .i64 y.id, .slice Ay y.need.length cy] 43) := ⟨_, rfl⟩
  have hEW : Ext w W := by rw [hW]; exact (Ext.alloc _ _).trans (Ext.alloc _ _)
  have hx1 : W.heap[w.heap.size]? = some (.cells #[.int .i64 x.id, .slice Ax x.need.length cx] 43 (0, 0)) := by rw [hW]; exact (Ext.alloc _ _).obj (heap_alloc_new _ _)
  have hx2 : W.heap[w.heap.size + 1]? = some (.cells #[.int .i64 y.id, .slice Ay y.need.length cy] 43 (0, 0)) := by rw [hW]; exact heap_new (by simp)
  have KB : Hid (∀ w', Ext W w' → w'.cell? ⟨w.heap.size, 0, none⟩ = some (.int .i64 x.id) ∧ w'.cell? ⟨w.heap.size, 1, none⟩ = some (.slice Ax x.need.length cx) ∧ w'.cell? ⟨w.heap.size + 1, 0, none⟩ = some (.int .i64 y.id) ∧ w'.cell? ⟨w.heap.size + 1, 1, none⟩ = some (.slice Ay y.need.length cy)) := hid fun w' hw => ⟨obj_cell (hw.obj hx1) (i := 0) rfl, obj_cell (hw.obj hx1) (i := 1) rfl, obj_cell (hw.obj hx2) (i := 0) rfl, obj_cell (hw.obj hx2) (i := 1) rfl⟩
  have HEW := hid hEW
  have HX := hid (RI.ext hnx hEW)
  have HY := hid (RI.ext hny hEW)
  have TK0 : Hid True := hid trivial
  obtain ⟨sx, hsx⟩ : ∃ sx, sx = sumL x.need := ⟨_, rfl⟩
  obtain ⟨sy, hsy⟩ : ∃ sy, sy = sumL y.need := ⟨_, rfl⟩
  have hB : beforeT x y = (decide (sy < sx) || (decide (sx = sy) && decide (x.id < y.id))) := by rw [hsx, hsy]; rfl
  have HSX := hid hsx
  have HSY := hid hsy
  clear hx1 hx2 hEW hnx hny hsx hsy
  obtain ⟨q0, q1, q2, q3⟩ := KB.out W (Ext.refl _)
  by_cases h1 : sy < sx
  · have HR : Hid (beforeT x y = true) := hid (by rw [hB]; simp [h1])
    clear hB
    go_enter Try.func96, Try.ntmps96
    go_wp2_with (first
      | (go_at_call 110; clear TK0; rw [← hW]; refine (sSum4 _ x.need _ HX.out vx).mono ?_; rw [← HSX.out]; rintro e w1 ⟨rfl, hE1⟩; clear q0 q1 q2 q3 hW; obtain ⟨q0, q1, q2, q3⟩ := KB.out _ hE1; have HE1 := hid hE1; have TK1 : Hid True := hid trivial; clear hE1)
      | (go_at_call 110; clear TK1; refine (sSum4 _ y.need _ (RI.ext HY.out HE1.out) vy).mono ?_; rw [← HSY.out]; rintro e w2 ⟨rfl, hE2⟩; obtain ⟨q0, q1, q2, q3⟩ := KB.out _ (HE1.out.trans hE2); have HE2 := hid (HE1.out.trans hE2); clear hE2))
    go_ret
    exact ⟨ret_b HR.out.symm, HEW.out.trans HE2.out⟩
  · have HN1 : Hid (decide (sy < sx) = false) := hid (by simpa using h1)
    by_cases h2 : sx = sy
    · have hb2 : (sx == sy) = true := by simp [h2]
      have HR : Hid (beforeT x y = decide (x.id < y.id)) := hid (by rw [hB]; simp [h2])
      have HH2 := hid h2
      clear hB h2
      go_enter Try.func96, Try.ntmps96
      go_wp2_with (first
        | (go_at_call 110; clear TK0; rw [← hW]; refine (sSum4 _ x.need _ HX.out vx).mono ?_; rw [← HSX.out]; rintro e w1 ⟨rfl, hE1⟩; clear q0 q1 q2 q3 hW; obtain ⟨q0, q1, q2, q3⟩ := KB.out _ hE1; have HE1 := hid hE1; have TK1 : Hid True := hid trivial; clear hE1)
        | (go_at_call 110; clear TK1; refine (sSum4 _ y.need _ (RI.ext HY.out HE1.out) vy).mono ?_; rw [← HSY.out]; rintro e w2 ⟨rfl, hE2⟩; obtain ⟨q0, q1, q2, q3⟩ := KB.out _ (HE1.out.trans hE2); have HE2 := hid (HE1.out.trans hE2); clear hE2))
      go_ret
      exact ⟨ret_b (by rw [HR.out, HN1.out, Bool.false_or]), HEW.out.trans HE2.out⟩
    · have hb2 : (sx == sy) = false := by simp [h2]
      have HR : Hid (beforeT x y = false) := hid (by rw [hB]; simp [h1, h2])
      clear hB h2
      go_enter Try.func96, Try.ntmps96
      go_wp2_with (first
        | (go_at_call 110; clear TK0; rw [← hW]; refine (sSum4 _ x.need _ HX.out vx).mono ?_; rw [← HSX.out]; rintro e w1 ⟨rfl, hE1⟩; clear q0 q1 q2 q3 hW; obtain ⟨q0, q1, q2, q3⟩ := KB.out _ hE1; have HE1 := hid hE1; have TK1 : Hid True := hid trivial; clear hE1)
        | (go_at_call 110; clear TK1; refine (sSum4 _ y.need _ (RI.ext HY.out HE1.out) vy).mono ?_; rw [← HSY.out]; rintro e w2 ⟨rfl, hE2⟩; obtain ⟨q0, q1, q2, q3⟩ := KB.out _ (HE1.out.trans hE2); have HE2 := hid (HE1.out.trans hE2); clear hE2))
      go_ret
      exact ⟨ret_b (by rw [HR.out, HN1.out]), HEW.out.trans HE2.out⟩

theorem insTo_len (ts : List TaskD) (x : TaskD) : ∀ k, (insTo ts x k).1.length ≤ k + 1 ∧ ((insTo ts x k).2 = false → (insTo ts x k).1.length ≤ k)
  | 0 => by simp [insTo]
  | k + 1 => by
    have ih := insTo_len ts x k
    have e : insTo ts x (k + 1) = if !(insTo ts x k).2 && beforeT x (ts.getD k default) then ((insTo ts x k).1 ++ [x, ts.getD k default], true) else ((insTo ts x k).1 ++ [ts.getD k default], (insTo ts x k).2) := rfl
    rw [e]
    cases hd : (insTo ts x k).2 with
    | true =>
      rw [hd] at ih
      refine ⟨?_, fun h => ?_⟩
      · show ((insTo ts x k).1 ++ [ts.getD k default]).length ≤ _
        rw [List.length_append, List.length_singleton]
        omega
      · cases h
    | false =>
      have h2 := ih.2 hd
      split
      · refine ⟨?_, fun h => ?_⟩
        · show ((insTo ts x k).1 ++ [x, ts.getD k default]).length ≤ _
          rw [List.length_append]
          simp
          omega
        · cases h
      · refine ⟨?_, fun _ => ?_⟩
        · show ((insTo ts x k).1 ++ [ts.getD k default]).length ≤ _
          rw [List.length_append, List.length_singleton]
          omega
        · show ((insTo ts x k).1 ++ [ts.getD k default]).length ≤ _
          rw [List.length_append, List.length_singleton]
          omega
theorem insTo_done {ts : List TaskD} {x y : TaskD} {k : Nat} (h : ts[k]? = some y) (hd : (insTo ts x k).2 = true) : insTo ts x (k + 1) = ((insTo ts x k).1 ++ [y], true) := by
  have e : insTo ts x (k + 1) = if !(insTo ts x k).2 && beforeT x (ts.getD k default) then ((insTo ts x k).1 ++ [x, ts.getD k default], true) else ((insTo ts x k).1 ++ [ts.getD k default], (insTo ts x k).2) := rfl
  have e2 : ts.getD k default = y := by rw [List.getD_eq_getElem?_getD, h]; rfl
  rw [e, hd, e2]
  rfl
theorem insTo_now {ts : List TaskD} {x y : TaskD} {k : Nat} (h : ts[k]? = some y) (hd : (insTo ts x k).2 = false) (hb : beforeT x y = true) : insTo ts x (k + 1) = (((insTo ts x k).1 ++ [x]) ++ [y], true) := by
  have e : insTo ts x (k + 1) = if !(insTo ts x k).2 && beforeT x (ts.getD k default) then ((insTo ts x k).1 ++ [x, ts.getD k default], true) else ((insTo ts x k).1 ++ [ts.getD k default], (insTo ts x k).2) := rfl
  have e2 : ts.getD k default = y := by rw [List.getD_eq_getElem?_getD, h]; rfl
  rw [e, hd, e2, hb]
  simp
theorem insTo_not {ts : List TaskD} {x y : TaskD} {k : Nat} (h : ts[k]? = some y) (hd : (insTo ts x k).2 = false) (hb : beforeT x y = false) : insTo ts x (k + 1) = ((insTo ts x k).1 ++ [y], false) := by
  have e : insTo ts x (k + 1) = if !(insTo ts x k).2 && beforeT x (ts.getD k default) then ((insTo ts x k).1 ++ [x, ts.getD k default], true) else ((insTo ts x k).1 ++ [ts.getD k default], (insTo ts x k).2) := rfl
  have e2 : ts.getD k default = y := by rw [List.getD_eq_getElem?_getD, h]; rfl
  rw [e, hd, e2, hb]
  rfl

set_option maxHeartbeats 4000000 in
theorem sPut4 (v xv : Value) (ts : List TaskD) (x : TaskD) (w : World) (h : RT w v ts) (hx : TaskV w xv x) (vx : vecOk x.need = true) (hv : AllOk ts) (hl : ts.length ≤ 1000) :
    Calls Try.prog 65 #[v, xv] w fun e w' => ∃ v', e = .returned v' ∧ OT w' w.heap.size v' (insT ts x) ∧ Ext w w' := by
  obtain ⟨nx, rfl, hnx⟩ := hx
  obtain ⟨Ax, cx, rfl, _⟩ := RI.get hnx
  obtain ⟨At, ct, rfl, hc, hc', hg⟩ := RT.get h
  obtain ⟨W1, hW1⟩ : ∃ W, W = w.alloc (.cells #[.int .i64 x.id, .slice Ax x.need.length cx] 43) := ⟨_, rfl⟩
  obtain ⟨W, hW⟩ : ∃ W, W = W1.alloc (.cells #[] 43) := ⟨_, rfl⟩
  have hs1 : W1.heap.size = w.heap.size + 1 := by rw [hW1]; simp
  have hszW : w.heap.size + 1 ≤ W.heap.size := by rw [hW]; simp [hs1]
  have hEW : Ext w W := by rw [hW, hW1]; exact (Ext.alloc _ _).trans (Ext.alloc _ _)
  have hx1 : W.heap[w.heap.size]? = some (.cells #[.int .i64 x.id, .slice Ax x.need.length cx] 43 (0, 0)) := by rw [hW]; exact (Ext.alloc _ _).obj (by rw [hW1]; exact heap_alloc_new _ _)
  have hx2 : W.heap[w.heap.size + 1]? = some (.cells #[] 43 (0, 0)) := by rw [hW]; exact heap_new hs1
  have HO0 : Hid (OT W (w.heap.size + 1) (.slice (some ⟨w.heap.size + 1, 0, none⟩) 0 0) []) := hid (Own.of_empty hx2 (Nat.le_refl _))
  have KE : Hid (∀ w', Below (w.heap.size + 1) W w' → Ext w w') := hid fun w' hw => Below.trans hEW (hw.mono (Nat.le_succ _))
  have KB : Hid (∀ w', Below (w.heap.size + 1) W w' → w'.cell? ⟨w.heap.size, 0, none⟩ = some (.int .i64 x.id) ∧ w'.cell? ⟨w.heap.size, 1, none⟩ = some (.slice Ax x.need.length cx)) := hid fun w' hw => by
    have hh := (hw.block w.heap.size (Nat.lt_succ_self _)).trans hx1
    exact ⟨obj_cell hh (i := 0) rfl, obj_cell hh (i := 1) rfl⟩
  have HX := hid hnx
  have HG := hid hg
  have HV := hid hv
  rw [hW1] at hW
  clear hs1 hx1 hx2 hEW hnx hg hv h hW1
  obtain ⟨i0_task, hi0_task, hz0_task, hz1_task, hz2_task⟩ := info_parts info_task
  go_enter Try.func65, Try.ntmps65
  go_wp2
  rw [← hW]
  clear hW
  go_loopw [5, 6, 7] (fun o d i wr => ∃ (u : Value) (k : Nat) (dd : Bool), u = o ∧ k ≤ ts.length ∧ i = .int .i64 k ∧ d = .bool dd ∧ Hid (dd = (insTo ts x k).2) ∧ Hid (OT wr (w.heap.size + 1) u (insTo ts x k).1) ∧ Hid (Below (w.heap.size + 1) W wr)) (fun _ _ i _ => ts.length - (intOf i).toNat)
  case atStart => exact ⟨_, 0, false, rfl, Nat.zero_le _, rfl, rfl, hid rfl, HO0, hid (Below.refl _ _)⟩
  case round =>
    obtain ⟨u, k, dd, rfl, hk, rfl, rfl, HD, HO, HE⟩ := hrel
    have HIL : Hid ((insTo ts x k).1.length ≤ 1001) := hid (by have := (insTo_len ts x k).1; omega)
    have KT : Hid (∀ w', Ext wr w' → Below (w.heap.size + 1) W w') := hid fun w' hw => Below.trans HE.out (hw.mono (Nat.le_trans hszW HE.out.size))
    by_cases hlt : k < ts.length
    · obtain ⟨b, o, y, Ay, cy, rfl, ey, c1, c2, hny⟩ := HG.out k hlt
      have i1 : (k : Int) < (ts.length : Int) := by omega
      have i0 : (0 : Int) ≤ (k : Int) := by omega
      have HY := hid hny
      have HVY := hid (HV.out y (List.mem_of_getElem? ey.out))
      have KC : Hid (∀ w', Below (w.heap.size + 1) W w' → w'.cell? ⟨w.heap.size, 0, none⟩ = some (.int .i64 x.id) ∧ w'.cell? ⟨w.heap.size, 1, none⟩ = some (.slice Ax x.need.length cx) ∧ w'.cell? ⟨b, o + k * 2, none⟩ = some (.int .i64 y.id) ∧ w'.cell? ⟨b, o + k * 2 + 1, none⟩ = some (.slice Ay y.need.length cy)) := hid fun w' hw => ⟨(KB.out _ hw).1, (KB.out _ hw).2, (KE.out _ hw).cell c1, (KE.out _ hw).cell c2⟩
      clear c1 c2 hny
      cases hd : dd with
      | true =>
        have HDT := hid (HD.out.symm.trans hd)
        subst hd
        go_wp2
        have HDr : Hid (Ext wr wr.drew) := hid (Below.drew (Below.refl _ _))
        refine WG.start (fun w' => w'.cell? ⟨w.heap.size, 0, none⟩ = some (.int .i64 x.id) ∧ w'.cell? ⟨w.heap.size, 1, none⟩ = some (.slice Ax x.need.length cx) ∧ w'.cell? ⟨b, o + k * 2, none⟩ = some (.int .i64 y.id) ∧ w'.cell? ⟨b, o + k * 2 + 1, none⟩ = some (.slice Ay y.need.length cy)) [] (by kernel_rfl) (by exact KC.out _ (KT.out _ HDr.out)) (fun hHeld => ?_)
        obtain ⟨pz, hpz⟩ : ∃ x, x = wr.drew := ⟨_, rfl⟩
        rw [← hpz] at hHeld HDr ⊢
        clear hpz
        (refine WG.take (i := 0) (v := ?_) rfl (by kernel_rfl) (by kernel_rfl) (by kernel_rfl) (by kernel_rfl) (fun _ _ _ h => h) (Or.inl ⟨by rfl, ?_⟩) (by assumption) ?_; rotate_left; (intro w hSw; (try dsimp only at hSw); go_split_ands; go_simp; (try with_reducible rfl)); (try simp only [Act.put, List.setIfInBounds_toArray, List.set_cons_zero, List.set_cons_succ]))
        (refine WG.take (i := 1) (v := ?_) rfl (by kernel_rfl) (by kernel_rfl) (by kernel_rfl) (by kernel_rfl) (fun _ _ _ h => h) (Or.inl ⟨by rfl, ?_⟩) (by assumption) ?_; rotate_left; (intro w hSw; (try dsimp only at hSw); go_split_ands; go_simp; (try with_reducible rfl)); (try simp only [Act.put, List.setIfInBounds_toArray, List.set_cons_zero, List.set_cons_succ]))
        (refine WG.take (i := 2) (v := ?_) rfl (by kernel_rfl) (by kernel_rfl) (by kernel_rfl) (by kernel_rfl) (fun _ _ _ h => h) (Or.inl ⟨by rfl, ?_⟩) (by assumption) ?_; rotate_left; (intro w hSw; (try dsimp only at hSw); go_split_ands; go_simp; (try with_reducible rfl)); (try simp only [Act.put, List.setIfInBounds_toArray, List.set_cons_zero, List.set_cons_succ]))
        (refine WG.take (i := 3) rfl (by kernel_rfl) (by kernel_rfl) (by kernel_rfl) (by kernel_rfl) (fun _ _ _ h => h) (Or.inr ⟨?_, rfl⟩) (by assumption) ?_; go_simp; (try simp only [Act.put, List.setIfInBounds_toArray, List.set_cons_zero, List.set_cons_succ]))
        (refine WG.take (i := 4) rfl (by kernel_rfl) (by kernel_rfl) (by kernel_rfl) (by kernel_rfl) (fun _ _ _ h => h) (Or.inr ⟨?_, rfl⟩) (by assumption) ?_; go_simp; (try simp only [Act.put, List.setIfInBounds_toArray, List.set_cons_zero, List.set_cons_succ]))
        (refine WG.take (i := 5) rfl (by kernel_rfl) (by kernel_rfl) (by kernel_rfl) (by kernel_rfl) (fun _ _ _ h => h) (Or.inr ⟨?_, rfl⟩) (by assumption) ?_; go_simp; (try simp only [Act.put, List.setIfInBounds_toArray, List.set_cons_zero, List.set_cons_succ]))
        (refine WG.take (i := 6) rfl (by kernel_rfl) (by kernel_rfl) (by kernel_rfl) (by kernel_rfl) (fun _ _ _ h => h) (Or.inr ⟨?_, rfl⟩) (by assumption) ?_; go_simp; (try simp only [Act.put, List.setIfInBounds_toArray, List.set_cons_zero, List.set_cons_succ]))
        (refine WG.take (i := 7) rfl (by kernel_rfl) (by kernel_rfl) (by kernel_rfl) (by kernel_rfl) (fun _ _ _ h => h) (Or.inr ⟨?_, rfl⟩) (by assumption) ?_; go_simp; (try simp only [Act.put, List.setIfInBounds_toArray, List.set_cons_zero, List.set_cons_succ]))
        (refine WG.take (i := 8) rfl (by kernel_rfl) (by kernel_rfl) (by kernel_rfl) (by kernel_rfl) (fun _ _ _ h => h) (Or.inr ⟨?_, rfl⟩) (by assumption) ?_; go_simp; (try simp only [Act.put, List.setIfInBounds_toArray, List.set_cons_zero, List.set_cons_succ]))
        (refine WG.take (i := 9) (v := ?_) rfl (by kernel_rfl) (by kernel_rfl) (by kernel_rfl) (by kernel_rfl) (fun _ _ _ h => h) (Or.inl ⟨by rfl, ?_⟩) (by assumption) ?_; rotate_left; (intro w hSw; (try dsimp only at hSw); go_split_ands; go_simp; (try with_reducible rfl)); (try simp only [Act.put, List.setIfInBounds_toArray, List.set_cons_zero, List.set_cons_succ]))
        refine WG.done (by kernel_rfl) ?_
        obtain ⟨w6, hw6⟩ : ∃ x, x = pz := ⟨_, rfl⟩
        rw [← hw6] at HDr ⊢
        have HE6 := HDr
        clear hw6
        obtain ⟨q0, q1, q2, q3⟩ := KC.out _ (KT.out _ HE6.out)
        have TKy : Hid True := hid trivial
        clear hHeld HDr
        have HEA := hid (Ext.alloc w6 (.cells #[.int .i64 y.id, .slice Ay y.need.length cy] 43))
        have HOy := hid (Own.ext ET.ok (Own.ext ET.ok HO.out HE6.out) HEA.out)
        have HBy := hid (Below.trans ((KT.out _ HE6.out)) (HEA.out.mono (Nat.le_trans hszW ((KT.out _ HE6.out)).size)))
        have HRy := hid (RI.ext HY.out (KE.out _ HBy.out))
        have hszy : w.heap.size + 1 ≤ (w6.alloc (.cells #[.int .i64 y.id, .slice Ay y.need.length cy] 43)).heap.size := Nat.le_trans hszW HBy.out.size
        clear HEA
        go_wp2_with (first
          | (at_builtin; clear TKy; refine wpList_append_sl _ (by rfl) _ _ 28 (by rfl) ET.ok ET.flat (w.heap.size + 1) 43 ET.ne i0_task _ 2 32 Try.underlying28 hi0_task hz0_task hz1_task hz2_task rfl (by omega) _ (by rfl) _ (HOy.out) _ (by rfl) _ (RSl.laid (cs := [.int .i64 y.id, .slice Ay y.need.length cy]) (x := y) (heap_alloc_new _ _) rfl ⟨_, rfl, HRy.out⟩) (by have := HIL.out; simp; omega) (by have := HIL.out; simp; omega) ?_ ?_; (focus (first | exact Nat.le_refl _ | (simp; done) | (simp; omega) | omega)); intro v8 w8 hO8 hg8 hat8 hs8; have HO8 := hid hO8; have HB8 := hid (Below.grown HBy.out hg8 hszy (fun q hq => (Own.lt HOy.out q hq).1)); clear hO8 hg8 hat8 hs8))
        go_roundw
        case rel => exact ⟨_, k + 1, true, rfl, by omega, by go_num, rfl, hid (by rw [insTo_done ey.out HDT.out]), hid (by rw [insTo_done ey.out HDT.out]; exact HO8.out), HB8⟩
        case measure => simp [intOf]; omega
      | false =>
        have HDF := hid (HD.out.symm.trans hd)
        subst hd
        have HIF : Hid ((insTo ts x k).1.length ≤ 1000) := hid (by have := (insTo_len ts x k).2 HDF.out; omega)
        cases hb : beforeT x y with
        | false =>
          go_wp2
          have HDr : Hid (Ext wr wr.drew) := hid (Below.drew (Below.refl _ _))
          refine WG.start (fun w' => w'.cell? ⟨w.heap.size, 0, none⟩ = some (.int .i64 x.id) ∧ w'.cell? ⟨w.heap.size, 1, none⟩ = some (.slice Ax x.need.length cx) ∧ w'.cell? ⟨b, o + k * 2, none⟩ = some (.int .i64 y.id) ∧ w'.cell? ⟨b, o + k * 2 + 1, none⟩ = some (.slice Ay y.need.length cy)) [] (by kernel_rfl) (by exact KC.out _ (KT.out _ HDr.out)) (fun hHeld => ?_)
          obtain ⟨pz, hpz⟩ : ∃ x, x = wr.drew := ⟨_, rfl⟩
          rw [← hpz] at hHeld HDr ⊢
          clear hpz
          (refine WG.take (i := 0) (v := ?_) rfl (by kernel_rfl) (by kernel_rfl) (by kernel_rfl) (by kernel_rfl) (fun _ _ _ h => h) (Or.inl ⟨by rfl, ?_⟩) (by assumption) ?_; rotate_left; (intro w hSw; (try dsimp only at hSw); go_split_ands; go_simp; (try with_reducible rfl)); (try simp only [Act.put, List.setIfInBounds_toArray, List.set_cons_zero, List.set_cons_succ]))
          (refine WG.take (i := 1) (v := ?_) rfl (by kernel_rfl) (by kernel_rfl) (by kernel_rfl) (by kernel_rfl) (fun _ _ _ h => h) (Or.inl ⟨by rfl, ?_⟩) (by assumption) ?_; rotate_left; (intro w hSw; (try dsimp only at hSw); go_split_ands; go_simp; (try with_reducible rfl)); (try simp only [Act.put, List.setIfInBounds_toArray, List.set_cons_zero, List.set_cons_succ]))
          (refine WG.take (i := 2) (v := ?_) rfl (by kernel_rfl) (by kernel_rfl) (by kernel_rfl) (by kernel_rfl) (fun _ _ _ h => h) (Or.inl ⟨by rfl, ?_⟩) (by assumption) ?_; rotate_left; (intro w hSw; (try dsimp only at hSw); go_split_ands; go_simp; (try with_reducible rfl)); (try simp only [Act.put, List.setIfInBounds_toArray, List.set_cons_zero, List.set_cons_succ]))
          (refine WG.take (i := 3) (v := ?_) rfl (by kernel_rfl) (by kernel_rfl) (by kernel_rfl) (by kernel_rfl) (fun _ _ _ h => h) (Or.inl ⟨by rfl, ?_⟩) (by assumption) ?_; rotate_left; (intro w hSw; (try dsimp only at hSw); go_split_ands; go_simp; (try with_reducible rfl)); (try simp only [Act.put, List.setIfInBounds_toArray, List.set_cons_zero, List.set_cons_succ]))
          (refine WG.take (i := 4) (v := ?_) rfl (by kernel_rfl) (by kernel_rfl) (by kernel_rfl) (by kernel_rfl) (fun _ _ _ h => h) (Or.inl ⟨by rfl, ?_⟩) (by assumption) ?_; rotate_left; (intro w hSw; (try dsimp only at hSw); go_split_ands; go_simp; (try with_reducible rfl)); (try simp only [Act.put, List.setIfInBounds_toArray, List.set_cons_zero, List.set_cons_succ]))
          (refine WG.take (i := 5) (v := ?_) rfl (by kernel_rfl) (by kernel_rfl) (by kernel_rfl) (by kernel_rfl) (fun _ _ _ h => h) (Or.inl ⟨by rfl, ?_⟩) (by assumption) ?_; rotate_left; (intro w hSw; (try dsimp only at hSw); go_split_ands; go_simp; (try with_reducible rfl)); (try simp only [Act.put, List.setIfInBounds_toArray, List.set_cons_zero, List.set_cons_succ]))
          (refine WG.take (i := 6) (v := ?_) rfl (by kernel_rfl) (by kernel_rfl) (by kernel_rfl) (by kernel_rfl) (fun _ _ _ h => h) (Or.inl ⟨by rfl, ?_⟩) (by assumption) ?_; rotate_left; (intro w hSw; (try dsimp only at hSw); go_split_ands; go_simp; (try with_reducible rfl)); (try simp only [Act.put, List.setIfInBounds_toArray, List.set_cons_zero, List.set_cons_succ]))
          (refine WG.take (i := 7) (v := ?_) rfl (by kernel_rfl) (by kernel_rfl) (by kernel_rfl) (by kernel_rfl) (fun _ _ _ h => h) (Or.inl ⟨by rfl, ?_⟩) (by assumption) ?_; rotate_left; (intro w hSw; (try dsimp only at hSw); go_split_ands; go_simp; (try with_reducible rfl)); (try simp only [Act.put, List.setIfInBounds_toArray, List.set_cons_zero, List.set_cons_succ]))
          refine WG.one (i := 8) rfl (by kernel_rfl) (fun K hK => ?_)
          go_simp; refine (sBefore4 _ _ x y _ ⟨_, rfl, RI.ext HX.out (KE.out _ (KT.out _ HDr.out))⟩ ⟨_, rfl, RI.ext HY.out (KE.out _ (KT.out _ HDr.out))⟩ vx HVY.out).mono ?_; rw [hb]; rintro e6 w6 ⟨rfl, hE6⟩; have HE6 := hid (HDr.out.trans hE6); clear hE6; (try dsimp only)
          refine hK.out _ _ (by exact KC.out _ (KT.out _ HE6.out)) (fun hHeld => ?_)
          clear hK K
          (try simp only [Act.put, List.setIfInBounds_toArray, List.set_cons_zero, List.set_cons_succ])
          (refine WG.take (i := 9) (v := ?_) rfl (by kernel_rfl) (by kernel_rfl) (by kernel_rfl) (by kernel_rfl) (fun _ _ _ h => h) (Or.inl ⟨by rfl, ?_⟩) (by assumption) ?_; rotate_left; (intro w hSw; (try dsimp only at hSw); go_split_ands; go_simp; (try with_reducible rfl)); (try simp only [Act.put, List.setIfInBounds_toArray, List.set_cons_zero, List.set_cons_succ]))
          refine WG.done (by kernel_rfl) ?_
          obtain ⟨q0, q1, q2, q3⟩ := KC.out _ (KT.out _ HE6.out)
          have TKy : Hid True := hid trivial
          clear hHeld HDr
          have HEA := hid (Ext.alloc w6 (.cells #[.int .i64 y.id, .slice Ay y.need.length cy] 43))
          have HOy := hid (Own.ext ET.ok (Own.ext ET.ok HO.out HE6.out) HEA.out)
          have HBy := hid (Below.trans ((KT.out _ HE6.out)) (HEA.out.mono (Nat.le_trans hszW ((KT.out _ HE6.out)).size)))
          have HRy := hid (RI.ext HY.out (KE.out _ HBy.out))
          have hszy : w.heap.size + 1 ≤ (w6.alloc (.cells #[.int .i64 y.id, .slice Ay y.need.length cy] 43)).heap.size := Nat.le_trans hszW HBy.out.size
          clear HEA
          go_wp2_with (first
            | (at_builtin; clear TKy; refine wpList_append_sl _ (by rfl) _ _ 28 (by rfl) ET.ok ET.flat (w.heap.size + 1) 43 ET.ne i0_task _ 2 32 Try.underlying28 hi0_task hz0_task hz1_task hz2_task rfl (by omega) _ (by rfl) _ (HOy.out) _ (by rfl) _ (RSl.laid (cs := [.int .i64 y.id, .slice Ay y.need.length cy]) (x := y) (heap_alloc_new _ _) rfl ⟨_, rfl, HRy.out⟩) (by have := HIL.out; simp; omega) (by have := HIL.out; simp; omega) ?_ ?_; (focus (first | exact Nat.le_refl _ | (simp; done) | (simp; omega) | omega)); intro v8 w8 hO8 hg8 hat8 hs8; have HO8 := hid hO8; have HB8 := hid (Below.grown HBy.out hg8 hszy (fun q hq => (Own.lt HOy.out q hq).1)); clear hO8 hg8 hat8 hs8))
          go_roundw
          case rel => exact ⟨_, k + 1, false, rfl, by omega, by go_num, rfl, hid (by rw [insTo_not ey.out HDF.out hb]), hid (by rw [insTo_not ey.out HDF.out hb]; exact HO8.out), HB8⟩
          case measure => simp [intOf]; omega
        | true =>
          go_wp2
          have HDr : Hid (Ext wr wr.drew) := hid (Below.drew (Below.refl _ _))
          refine WG.start (fun w' => w'.cell? ⟨w.heap.size, 0, none⟩ = some (.int .i64 x.id) ∧ w'.cell? ⟨w.heap.size, 1, none⟩ = some (.slice Ax x.need.length cx) ∧ w'.cell? ⟨b, o + k * 2, none⟩ = some (.int .i64 y.id) ∧ w'.cell? ⟨b, o + k * 2 + 1, none⟩ = some (.slice Ay y.need.length cy)) [] (by kernel_rfl) (by exact KC.out _ (KT.out _ HDr.out)) (fun hHeld => ?_)
          obtain ⟨pz, hpz⟩ : ∃ x, x = wr.drew := ⟨_, rfl⟩
          rw [← hpz] at hHeld HDr ⊢
          clear hpz
          (refine WG.take (i := 0) (v := ?_) rfl (by kernel_rfl) (by kernel_rfl) (by kernel_rfl) (by kernel_rfl) (fun _ _ _ h => h) (Or.inl ⟨by rfl, ?_⟩) (by assumption) ?_; rotate_left; (intro w hSw; (try dsimp only at hSw); go_split_ands; go_simp; (try with_reducible rfl)); (try simp only [Act.put, List.setIfInBounds_toArray, List.set_cons_zero, List.set_cons_succ]))
          (refine WG.take (i := 1) (v := ?_) rfl (by kernel_rfl) (by kernel_rfl) (by kernel_rfl) (by kernel_rfl) (fun _ _ _ h => h) (Or.inl ⟨by rfl, ?_⟩) (by assumption) ?_; rotate_left; (intro w hSw; (try dsimp only at hSw); go_split_ands; go_simp; (try with_reducible rfl)); (try simp only [Act.put, List.setIfInBounds_toArray, List.set_cons_zero, List.set_cons_succ]))
          (refine WG.take (i := 2) (v := ?_) rfl (by kernel_rfl) (by kernel_rfl) (by kernel_rfl) (by kernel_rfl) (fun _ _ _ h => h) (Or.inl ⟨by rfl, ?_⟩) (by assumption) ?_; rotate_left; (intro w hSw; (try dsimp only at hSw); go_split_ands; go_simp; (try with_reducible rfl)); (try simp only [Act.put, List.setIfInBounds_toArray, List.set_cons_zero, List.set_cons_succ]))
          (refine WG.take (i := 3) (v := ?_) rfl (by kernel_rfl) (by kernel_rfl) (by kernel_rfl) (by kernel_rfl) (fun _ _ _ h => h) (Or.inl ⟨by rfl, ?_⟩) (by assumption) ?_; rotate_left; (intro w hSw; (try dsimp only at hSw); go_split_ands; go_simp; (try with_reducible rfl)); (try simp only [Act.put, List.setIfInBounds_toArray, List.set_cons_zero, List.set_cons_succ]))
          (refine WG.take (i := 4) (v := ?_) rfl (by kernel_rfl) (by kernel_rfl) (by kernel_rfl) (by kernel_rfl) (fun _ _ _ h => h) (Or.inl ⟨by rfl, ?_⟩) (by assumption) ?_; rotate_left; (intro w hSw; (try dsimp only at hSw); go_split_ands; go_simp; (try with_reducible rfl)); (try simp only [Act.put, List.setIfInBounds_toArray, List.set_cons_zero, List.set_cons_succ]))
          (refine WG.take (i := 5) (v := ?_) rfl (by kernel_rfl) (by kernel_rfl) (by kernel_rfl) (by kernel_rfl) (fun _ _ _ h => h) (Or.inl ⟨by rfl, ?_⟩) (by assumption) ?_; rotate_left; (intro w hSw; (try dsimp only at hSw); go_split_ands; go_simp; (try with_reducible rfl)); (try simp only [Act.put, List.setIfInBounds_toArray, List.set_cons_zero, List.set_cons_succ]))
          (refine WG.take (i := 6) (v := ?_) rfl (by kernel_rfl) (by kernel_rfl) (by kernel_rfl) (by kernel_rfl) (fun _ _ _ h => h) (Or.inl ⟨by rfl, ?_⟩) (by assumption) ?_; rotate_left; (intro w hSw; (try dsimp only at hSw); go_split_ands; go_simp; (try with_reducible rfl)); (try simp only [Act.put, List.setIfInBounds_toArray, List.set_cons_zero, List.set_cons_succ]))
          (refine WG.take (i := 7) (v := ?_) rfl (by kernel_rfl) (by kernel_rfl) (by kernel_rfl) (by kernel_rfl) (fun _ _ _ h => h) (Or.inl ⟨by rfl, ?_⟩) (by assumption) ?_; rotate_left; (intro w hSw; (try dsimp only at hSw); go_split_ands; go_simp; (try with_reducible rfl)); (try simp only [Act.put, List.setIfInBounds_toArray, List.set_cons_zero, List.set_cons_succ]))
          refine WG.one (i := 8) rfl (by kernel_rfl) (fun K hK => ?_)
          go_simp; refine (sBefore4 _ _ x y _ ⟨_, rfl, RI.ext HX.out (KE.out _ (KT.out _ HDr.out))⟩ ⟨_, rfl, RI.ext HY.out (KE.out _ (KT.out _ HDr.out))⟩ vx HVY.out).mono ?_; rw [hb]; rintro e6 w6 ⟨rfl, hE6⟩; have HE6 := hid (HDr.out.trans hE6); clear hE6; (try dsimp only)
          refine hK.out _ _ (by exact KC.out _ (KT.out _ HE6.out)) (fun hHeld => ?_)
          clear hK K
          (try simp only [Act.put, List.setIfInBounds_toArray, List.set_cons_zero, List.set_cons_succ])
          (refine WG.take (i := 9) (v := ?_) rfl (by kernel_rfl) (by kernel_rfl) (by kernel_rfl) (by kernel_rfl) (fun _ _ _ h => h) (Or.inl ⟨by rfl, ?_⟩) (by assumption) ?_; rotate_left; (intro w hSw; (try dsimp only at hSw); go_split_ands; go_simp; (try with_reducible rfl)); (try simp only [Act.put, List.setIfInBounds_toArray, List.set_cons_zero, List.set_cons_succ]))
          refine WG.done (by kernel_rfl) ?_
          obtain ⟨q0, q1, q2, q3⟩ := KC.out _ (KT.out _ HE6.out)
          have TKx : Hid True := hid trivial
          clear hHeld HDr
          have HEA := hid (Ext.alloc w6 (.cells #[.int .i64 x.id, .slice Ax x.need.length cx] 43))
          have HOx := hid (Own.ext ET.ok (Own.ext ET.ok HO.out HE6.out) HEA.out)
          have HBx := hid (Below.trans ((KT.out _ HE6.out)) (HEA.out.mono (Nat.le_trans hszW ((KT.out _ HE6.out)).size)))
          have HRx := hid (RI.ext HX.out (KE.out _ HBx.out))
          have hszx : w.heap.size + 1 ≤ (w6.alloc (.cells #[.int .i64 x.id, .slice Ax x.need.length cx] 43)).heap.size := Nat.le_trans hszW HBx.out.size
          clear HEA
          go_wp2_with (first
            | (at_builtin; clear TKx; refine wpList_append_sl _ (by rfl) _ _ 28 (by rfl) ET.ok ET.flat (w.heap.size + 1) 43 ET.ne i0_task _ 2 32 Try.underlying28 hi0_task hz0_task hz1_task hz2_task rfl (by omega) _ (by rfl) _ (HOx.out) _ (by rfl) _ (RSl.laid (cs := [.int .i64 x.id, .slice Ax x.need.length cx]) (x := x) (heap_alloc_new _ _) rfl ⟨_, rfl, HRx.out⟩) (by have := HIF.out; simp; omega) (by have := HIF.out; simp; omega) ?_ ?_; (focus (first | exact Nat.le_refl _ | (simp; done) | (simp; omega) | omega)); intro v7 w7 hO7 hg7 hat7 hs7; have HO7 := hid hO7; have HB7 := hid (Below.grown HBx.out hg7 hszx (fun q hq => (Own.lt HOx.out q hq).1)); clear hO7 hg7 hat7 hs7; obtain ⟨q0, q1, q2, q3⟩ := KC.out _ HB7.out; have HEA := hid (Ext.alloc w7 (.cells #[.int .i64 y.id, .slice Ay y.need.length cy] 43)); have HOy := hid (Own.ext ET.ok HO7.out HEA.out); have HBy := hid (Below.trans (HB7.out) (HEA.out.mono (Nat.le_trans hszW (HB7.out).size))); have HRy := hid (RI.ext HY.out (KE.out _ HBy.out)); have hszy : w.heap.size + 1 ≤ (w7.alloc (.cells #[.int .i64 y.id, .slice Ay y.need.length cy] 43)).heap.size := Nat.le_trans hszW HBy.out.size; clear HEA; have TKy : Hid True := hid trivial)
            | (at_builtin; clear TKy; refine wpList_append_sl _ (by rfl) _ _ 28 (by rfl) ET.ok ET.flat (w.heap.size + 1) 43 ET.ne i0_task _ 2 32 Try.underlying28 hi0_task hz0_task hz1_task hz2_task rfl (by omega) _ (by rfl) _ (HOy.out) _ (by rfl) _ (RSl.laid (cs := [.int .i64 y.id, .slice Ay y.need.length cy]) (x := y) (heap_alloc_new _ _) rfl ⟨_, rfl, HRy.out⟩) (by have := HIF.out; simp; omega) (by have := HIF.out; simp; omega) ?_ ?_; (focus (first | exact Nat.le_refl _ | (simp; done) | (simp; omega) | omega)); intro v8 w8 hO8 hg8 hat8 hs8; have HO8 := hid hO8; have HB8 := hid (Below.grown HBy.out hg8 hszy (fun q hq => (Own.lt HOy.out q hq).1)); clear hO8 hg8 hat8 hs8))
          go_roundw
          case rel => exact ⟨_, k + 1, true, rfl, by omega, by go_num, rfl, hid (by rw [insTo_now ey.out HDF.out hb]), hid (by rw [insTo_now ey.out HDF.out hb]; exact HO8.out), HB8⟩
          case measure => simp [intOf]; omega
    · have hk' : k = ts.length := by omega
      have HK := hid hk'
      clear hk'
      cases hd : dd with
      | true =>
        have HDT := hid (HD.out.symm.trans hd)
        subst hd
        go_wp2
        go_ret
        exact ⟨_, rfl, by rw [HK.out] at HDT HO; have e : insT ts x = (insTo ts x ts.length).1 := (by unfold insT; simp only; rw [HDT.out]; rfl); rw [e]; exact HO.out.low (Nat.le_succ _), KE.out _ HE.out⟩
      | false =>
        have HDF := hid (HD.out.symm.trans hd)
        subst hd
        have HIF : Hid ((insTo ts x k).1.length ≤ 1000) := hid (by have := (insTo_len ts x k).2 HDF.out; omega)
        obtain ⟨q0, q1⟩ := KB.out _ HE.out
        have TKx : Hid True := hid trivial
        have HEA := hid (Ext.alloc wr (.cells #[.int .i64 x.id, .slice Ax x.need.length cx] 43))
        have HOx := hid (Own.ext ET.ok HO.out HEA.out)
        have HBx := hid (Below.trans (HE.out) (HEA.out.mono (Nat.le_trans hszW (HE.out).size)))
        have HRx := hid (RI.ext HX.out (KE.out _ HBx.out))
        have hszx : w.heap.size + 1 ≤ (wr.alloc (.cells #[.int .i64 x.id, .slice Ax x.need.length cx] 43)).heap.size := Nat.le_trans hszW HBx.out.size
        clear HEA
        go_wp2_with ((at_builtin; clear TKx; refine wpList_append_sl _ (by rfl) _ _ 28 (by rfl) ET.ok ET.flat (w.heap.size + 1) 43 ET.ne i0_task _ 2 32 Try.underlying28 hi0_task hz0_task hz1_task hz2_task rfl (by omega) _ (by rfl) _ (HOx.out) _ (by rfl) _ (RSl.laid (cs := [.int .i64 x.id, .slice Ax x.need.length cx]) (x := x) (heap_alloc_new _ _) rfl ⟨_, rfl, HRx.out⟩) (by have := HIF.out; simp; omega) (by have := HIF.out; simp; omega) ?_ ?_; (focus (first | exact Nat.le_refl _ | (simp; done) | (simp; omega) | omega)); intro v7 w7 hO7 hg7 hat7 hs7; have HO7 := hid hO7; have HB7 := hid (Below.grown HBx.out hg7 hszx (fun q hq => (Own.lt HOx.out q hq).1)); clear hO7 hg7 hat7 hs7))
        go_ret
        exact ⟨_, rfl, by rw [HK.out] at HDF HO7; have e : insT ts x = (insTo ts x ts.length).1 ++ [x] := (by unfold insT; simp only; rw [HDF.out]; rfl); rw [e]; exact HO7.out.low (Nat.le_succ _), KE.out _ HB7.out⟩

end Go.Proofs.Ytllchacophapoaa

/- The reference's TasksSort, DownAll, DownBest, FewestAll. -/
namespace Go.Proofs.Ytllchacophapoaa
open Go.RowKit
set_option maxRecDepth 4000

theorem AllOk.take {ts : List TaskD} (h : AllOk ts) (k : Nat) : AllOk (ts.take k) := fun t ht => h t (List.mem_of_mem_take ht)
theorem AllOk.sort {ts : List TaskD} (h : AllOk ts) : AllOk (sortT ts) := AllOk.perm h (sortT_perm ts)

set_option maxHeartbeats 1000000 in
theorem sSort4 (rv v : Value) (room : List Int) (ts : List TaskD) (w : World) (hR : RI w rv room) (h : RT w v ts) :
    Calls Try.prog 36 #[rv, v] w fun e w' => ∃ v', e = .returned v' ∧ OT w' w.heap.size v' (sortN room ts) ∧ Ext w w' := by
  have HR := hid hR
  have HT := hid h
  obtain ⟨Ar, cr, rfl, _⟩ := hR
  obtain ⟨At, ct, rfl, _, _, hg⟩ := RT.get h
  have HG := hid hg
  obtain ⟨W, hW⟩ : ∃ W, W = w.alloc (.cells #[] 43) := ⟨_, rfl⟩
  have hEW : Ext w W := by rw [hW]; exact Ext.alloc _ _
  have HEW := hid hEW
  have HO0 : Hid (RT W (.slice (some ⟨w.heap.size, 0, none⟩) 0 0) []) := hid (RSl.nil_ _ _ _ _ _ _ (by omega))
  clear hEW h hg
  cases hq : tasksOk room ts with
  | true =>
    obtain ⟨a1, a2, a3⟩ := tasksOk_all hq
    have HA := hid a1
    have HS := hid (sortN_ok hq).1
    have HQ := hid hq
    clear a1 a2 hq
    go_enter Try.func36, Try.ntmps36
    go_wp2
    rw [← hW]
    clear hW
    go_loopw [5, 6] (fun o i wr => ∃ (u : Value) (k : Nat), u = o ∧ k ≤ ts.length ∧ i = .int .i64 k ∧ Hid (RT wr u (sortT (ts.take k)) ∧ Ext w wr)) (fun _ i _ => ts.length - (intOf i).toNat)
    case atStart => exact ⟨_, 0, rfl, Nat.zero_le _, rfl, hid ⟨HO0.out, HEW.out⟩⟩
    case round =>
      obtain ⟨u, k, rfl, hk, rfl, H⟩ := hrel
      have HB := hid H.out.1
      have HE := hid H.out.2
      clear H
      have HLK : Hid ((sortT (ts.take k)).length ≤ 14) := hid (by rw [sortT_len, List.length_take]; omega)
      obtain ⟨Au, cu, rfl, _⟩ := RT.get HB.out
      by_cases hlt : k < ts.length
      · obtain ⟨b, o, x, An, cn, rfl, e, c0, c1, hnx⟩ := HG.out k hlt
        have i1 : (k : Int) < (ts.length : Int) := by omega
        have i0 : (0 : Int) ≤ (k : Int) := by omega
        have HNX := hid hnx
        have HVX := hid (HA.out x (List.mem_of_getElem? e.out))
        have KB : Hid (∀ w', Ext w w' → w'.cell? ⟨b, o + k * 2, none⟩ = some (.int .i64 x.id) ∧ w'.cell? ⟨b, o + k * 2 + 1, none⟩ = some (.slice An x.need.length cn)) := hid fun w' hw => ⟨hw.cell c0, hw.cell c1⟩
        have HAS := hid (AllOk.sort (AllOk.take HA.out k))
        clear c0 c1 hnx
        go_wp2_with (first
          | (go_at_call 23; refine (sTasksValid _ _ room ts _ (RI.ext HR.out HE.out) (RT.ext HT.out HE.out)).mono ?_; rintro e w1 ⟨rfl, n1, hw1⟩; rw [HQ.out]; have HE1 : Hid (Ext wr w1) := hid (by rw [hw1]; exact Ext.drewN _ _); obtain ⟨q0, q1⟩ := KB.out _ (HE.out.trans HE1.out); clear hw1)
          | (go_at_call 65; refine (sPut4 _ _ (sortT (ts.take k)) x _ (RT.ext HB.out HE1.out) ⟨_, rfl, RI.ext HNX.out (HE.out.trans HE1.out)⟩ HVX.out HAS.out (by have := HLK.out; omega)).mono ?_; rintro e w2 ⟨v2, rfl, hO2, hE2⟩; have HO2 := hid hO2; have HE2 := hid (HE1.out.trans hE2); clear hO2 hE2))
        go_roundw
        case rel => exact ⟨_, k + 1, rfl, by omega, by go_num, hid ⟨by rw [sortT_take_succ e.out]; exact OT.read HO2.out, HE.out.trans HE2.out⟩⟩
        case measure => simp [intOf]; omega
      · have hk' : k = ts.length := by omega
        have HK := hid hk'
        clear hk'
        have HNL : Hid (∀ t ∈ sortT (ts.take k), t.need.length ≤ 4000000) := hid (fun t ht => by rw [vecOk_len (AllOk.sort (AllOk.take HA.out k) t ht)]; omega)
        go_wp2_with (go_at_call 66; refine (sCopy _ (sortT (ts.take k)) _ HB.out (by have := HLK.out; omega) HNL.out).mono ?_; rintro e w2 ⟨v2, rfl, hO2, hE2⟩; have HO2 := hid hO2; have HE2 := hid hE2; clear hO2 hE2)
        go_ret
        exact ⟨_, rfl, by rw [HS.out]; have h1 := HO2.out; rw [HK.out, List.take_length] at h1; exact h1.low HE.out.size, HE.out.trans HE2.out⟩
  | false =>
    have HS : Hid (sortN room ts = []) := hid (by unfold sortN; rw [hq]; rfl)
    go_enter Try.func36, Try.ntmps36
    go_wp2
    rw [← hW]
    clear hW
    refine wp_loop_rounds 1 ?_
    rw [rounds_succ]
    by_cases hlt : 0 < ts.length
    · have i1 : (0 : Int) < (ts.length : Int) := by omega
      go_wp2_with (first
        | (go_at_call 23; refine (sTasksValid _ _ room ts _ (RI.ext HR.out HEW.out) (RT.ext HT.out HEW.out)).mono ?_; rintro e w1 ⟨rfl, n1, hw1⟩; rw [hq]; have HE1 : Hid (Ext W w1) := hid (by rw [hw1]; exact Ext.drewN _ _); clear hw1)
        | (go_at_call 66; refine (sCopy _ [] _ (RT.ext HO0.out HE1.out) (by simp) (fun t ht => by cases ht)).mono ?_; rintro e w2 ⟨v2, rfl, hO2, hE2⟩; have HO2 := hid hO2; have HE2 := hid hE2; clear hO2 hE2))
      go_ret
      exact ⟨_, rfl, by rw [HS.out]; exact HO2.out.low (HEW.out.trans HE1.out).size, (HEW.out.trans HE1.out).trans HE2.out⟩
    · have i1 : ts.length = 0 := by omega
      go_wp2_with (go_at_call 66; refine (sCopy _ [] _ HO0.out (by simp) (fun t ht => by cases ht)).mono ?_; rintro e w2 ⟨v2, rfl, hO2, hE2⟩; have HO2 := hid hO2; have HE2 := hid hE2; clear hO2 hE2)
      go_ret
      exact ⟨_, rfl, by rw [HS.out]; exact HO2.out.low HEW.out.size, HEW.out.trans HE2.out⟩

theorem sDownAll (rv v : Value) (room : List Int) (ts : List TaskD) (w : World) (hR : RI w rv room) (h : RT w v ts) :
    Calls Try.prog 10 #[rv, v] w (RetRB w (downAllN room ts)) := by
  have HR := hid hR
  have HT := hid h
  obtain ⟨Ar, cr, rfl, _⟩ := hR
  obtain ⟨At, ct, rfl, _⟩ := RT.get h
  clear h
  go_enter Try.func10, Try.ntmps10
  go_wp2_with (first
    | (go_at_call 36; refine (sSort4 _ _ room ts _ HR.out HT.out).mono ?_; rintro e w1 ⟨v1, rfl, hO1, hE1⟩; have HO1 := hid (OT.read hO1); have HE1 := hid hE1; clear hO1 hE1)
    | (go_at_call 35; refine (sFirstAll _ _ room (sortN room ts) _ (RI.ext HR.out HE1.out) HO1.out).mono ?_; rintro e w2 ⟨v2, rfl, hB2, hE2⟩; have HB2 := hid hB2; have HE2 := hid (HE1.out.trans hE2); clear hB2 hE2))
  go_ret
  exact ⟨_, rfl, HB2.out, HE2.out⟩
theorem sDownBest (rv v : Value) (room : List Int) (ts : List TaskD) (w : World) (hR : RI w rv room) (h : RT w v ts) :
    Calls Try.prog 27 #[rv, v] w (RetRB w (downBestN room ts)) := by
  have HR := hid hR
  have HT := hid h
  obtain ⟨Ar, cr, rfl, _⟩ := hR
  obtain ⟨At, ct, rfl, _⟩ := RT.get h
  clear h
  go_enter Try.func27, Try.ntmps27
  go_wp2_with (first
    | (go_at_call 36; refine (sSort4 _ _ room ts _ HR.out HT.out).mono ?_; rintro e w1 ⟨v1, rfl, hO1, hE1⟩; have HO1 := hid (OT.read hO1); have HE1 := hid hE1; clear hO1 hE1)
    | (go_at_call 54; refine (sBestAll _ _ room (sortN room ts) _ (RI.ext HR.out HE1.out) HO1.out).mono ?_; rintro e w2 ⟨v2, rfl, hB2, hE2⟩; have HB2 := hid hB2; have HE2 := hid (HE1.out.trans hE2); clear hB2 hE2))
  go_ret
  exact ⟨_, rfl, HB2.out, HE2.out⟩

end Go.Proofs.Ytllchacophapoaa
