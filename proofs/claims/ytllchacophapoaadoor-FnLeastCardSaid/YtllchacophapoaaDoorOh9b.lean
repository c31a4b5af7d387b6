/- The program's few, LeastCount and LeastAll. -/
import Derived.Test.YtllchacophapoaaDoorK41
import Derived.Test.YtllchacophapoaaDoorK28
import Derived.Test.YtllchacophapoaaDoorK39
namespace Go.Proofs.YtllchacophapoaaDoor
open Go.RowKit
set_option maxRecDepth 4000

theorem iFew (rv tv : Value) (room : List Int) (ts : List TaskD) (w : World) (hR : RI w rv room) (h : RT w tv ts) (hids : ∀ t ∈ ts, IdR t.id) :
    Calls Tryd.prog 33 #[rv, tv] w (RetB w (leastOkB room ts)) := by
  have HR := hid hR
  have HT := hid h
  have HID := hid hids
  obtain ⟨Ar, cr, rfl, _⟩ := hR
  obtain ⟨At, ct, rfl, _⟩ := RT.get h
  clear h hids
  by_cases hl : ts.length ≤ 7
  · have hlI : (ts.length : Int) ≤ 7 := by omega
    have HRS : Hid (leastOkB room ts = tasksOk room ts) := hid (by unfold leastOkB; rw [decide_eq_true hl]; simp)
    go_enter Tryd.func33, Tryd.ntmps33
    go_wp2_with (go_at_call 49; refine (iTasksValid _ _ room ts _ HR.out HT.out HID.out).mono ?_; rintro e w1 ⟨rfl, hE1⟩; have HE1 := hid hE1; clear hE1)
    go_ret
    rw [HRS.out]
    exact ⟨rfl, HE1.out⟩
  · have hlI : decide ((ts.length : Int) ≤ 7) = false := decide_eq_false (by omega)
    have HRS : Hid (leastOkB room ts = false) := hid (by unfold leastOkB; rw [decide_eq_false hl]; simp)
    go_enter Tryd.func33, Tryd.ntmps33
    go_wp2
    go_ret
    rw [HRS.out]
    exact ⟨rfl, Ext.refl _⟩
theorem iLeastCount (rv tv : Value) (room : List Int) (ts : List TaskD) (w : World) (hR : RI w rv room) (h : RT w tv ts) (hids : ∀ t ∈ ts, IdR t.id) (ht : TabOk w) :
    Calls Tryd.prog 24 #[rv, tv] w (RetN w (leastCountN room ts)) := by
  have HR := hid hR
  have HT := hid h
  have HID := hid hids
  have HTB := hid ht
  obtain ⟨Ar, cr, rfl, _⟩ := hR
  obtain ⟨At, ct, rfl, _⟩ := RT.get h
  clear h hids ht
  cases hq : leastOkB room ts with
  | true =>
    have HOK := hid (leastOk_iff hq)
    have HRS : Hid (leastCountN room ts = ((leastR room ts).length : Int)) := hid (by unfold leastCountN; rw [hq]; rfl)
    go_enter Tryd.func24, Tryd.ntmps24
    go_wp2_with (first
      | (go_at_call 33; refine (iFew _ _ room ts _ HR.out HT.out HID.out).mono ?_; rw [hq]; rintro e w1 ⟨rfl, hE1⟩; have HE1 := hid hE1; clear hE1)
      | (go_at_call 34; refine (iLeastOf _ _ room ts _ (RI.ext HR.out HE1.out) (RT.ext HT.out HE1.out) HOK.out.1 HOK.out.2 (HTB.out.ext HE1.out)).mono ?_; rintro e w2 ⟨rfl, hE2⟩; have HE2 := hid (HE1.out.trans hE2); clear hE2))
    go_ret
    rw [HRS.out]
    exact ⟨rfl, HE2.out⟩
  | false =>
    have HRS : Hid (leastCountN room ts = -1) := hid (by unfold leastCountN; rw [hq]; rfl)
    go_enter Tryd.func24, Tryd.ntmps24
    go_wp2_with (go_at_call 33; refine (iFew _ _ room ts _ HR.out HT.out HID.out).mono ?_; rw [hq]; rintro e w1 ⟨rfl, hE1⟩; have HE1 := hid hE1; clear hE1)
    go_ret
    rw [HRS.out]
    exact ⟨rfl, HE1.out⟩

set_option maxHeartbeats 8000000 in
theorem iLeastAll (rv tv : Value) (room : List Int) (ts : List TaskD) (w : World) (hR : RI w rv room) (h : RT w tv ts) (hids : ∀ t ∈ ts, IdR t.id) (ht : TabOk w) :
    Calls Tryd.prog 10 #[rv, tv] w (RetDB (leastAllN room ts) w) := by
  have HR := hid hR
  have HT := hid h
  have HID := hid hids
  have HTB := hid ht
  obtain ⟨Ar, cr, rfl, _⟩ := hR
  obtain ⟨At, ct, rfl, _, _, hg⟩ := RT.get h
  have HG := hid hg
  clear h hids ht hg
  cases hq : leastOkB room ts with
  | true =>
    have HOK := hid (leastOk_iff hq)
    have HRS : Hid (leastAllN room ts = leastR room ts) := hid (by unfold leastAllN; rw [hq]; rfl)
    have HFIT := hid (fit_of_ok (leastOk_iff hq).1)
    have HSP := hid (least_spec (fit_of_ok (leastOk_iff hq).1))
    have HGT := hid (tasksOk_good (leastOk_iff hq).1)
    have HLR := hid (vecOk_len (roomOk_vec (tasksOk_room (leastOk_iff hq).1)))
    obtain ⟨R, hRd⟩ : ∃ R, R = leastR room ts := ⟨_, rfl⟩
    rw [← hRd] at HSP HRS
    have HRD := hid hRd
    clear hRd
    obtain ⟨i0_bin, hi0_bin, hz0_bin, hz1_bin, hz2_bin⟩ := info_parts info_bin
    obtain ⟨i0_task, hi0_task, hz0_task, hz1_task, hz2_task⟩ := info_parts info_task
    obtain ⟨i0_int, hi0_int, hz0_int, hz1_int, hz2_int⟩ := info_parts info_int
    obtain ⟨i0_trial, hi0_trial, hz0_trial, hz1_trial, hz2_trial⟩ := info_parts info_trial
    go_enter Tryd.func10, Tryd.ntmps10
    go_wp2_with (first
      | (go_at_call 33; refine (iFew _ _ room ts _ HR.out HT.out HID.out).mono ?_; rw [hq]; rintro e w1 ⟨rfl, hE1⟩; have HE1 := hid hE1; clear hE1)
      | (go_at_call 34; refine (iLeastOf _ _ room ts _ (RI.ext HR.out HE1.out) (RT.ext HT.out HE1.out) HOK.out.1 HOK.out.2 (HTB.out.ext HE1.out)).mono ?_; rw [← HRD.out]; rintro e w2 ⟨rfl, hE2⟩; have HE2 := hid (HE1.out.trans hE2); clear hE2))
    go_loopw [6, 7, 8] (fun bv sv hv wr => ∃ (gb cb gs cs gh ch n : Nat) (bs : List (List TaskD)) (ps : List (List TaskD × Value)) (fr : List FrD) (rest : List TaskD), bv = .slice (some ⟨gb, 0, none⟩) bs.length cb ∧ sv = .slice (some ⟨gs, 0, none⟩) (fr.length + 1) cs ∧ hv = .slice (some ⟨gh, 0, none⟩) fr.length ch ∧ Hid (ps.map (·.1) = bs) ∧ Hid (Dfs room R.length ts R fr bs rest n) ∧ Hid (LA w wr (.slice (some ⟨gb, 0, none⟩) bs.length cb) (.slice (some ⟨gs, 0, none⟩) (fr.length + 1) cs) (.slice (some ⟨gh, 0, none⟩) fr.length ch) ps fr n)) (fun _ sv _ wr => rkV wr sv)
    case atStart => exact ⟨_, _, _, _, _, _, 0, [], [], [], ts, rfl, rfl, rfl, hid rfl, hid (Dfs.start HSP.out.2.1), hid (LA.init HE2.out)⟩
    case round =>
      obtain ⟨gb, cb, gs, cs, gh, ch, n, bs, ps, fr, rest, rfl, rfl, rfl, HPS, HDF, H⟩ := hrel
      have HDP := hid (Dfs.depth HFIT.out HDF.out)
      by_cases hkt : fr.length < ts.length
      · obtain ⟨b, o, x, An, cn, rfl, e, c0, c1, hnx⟩ := HG.out _ hkt
        have hrest : rest = x :: ts.drop (fr.length + 1) := by
          rw [HDP.out.2.1, List.drop_eq_getElem_cons hkt, (List.getElem?_eq_some_iff.1 e.out).2]
        obtain ⟨xs, hxs⟩ : ∃ xs, xs = ts.drop (fr.length + 1) := ⟨_, rfl⟩
        rw [← hxs] at hrest
        subst hrest
        have c0r := H.out.ext.cell c0
        have c1r := H.out.ext.cell c1
        have HXG := hid (HGT.out.2 x (List.mem_of_getElem? e.out))
        have HNX := hid hnx
        have HSM : Hid (bs.length ≤ 7 ∧ bs.length ≤ R.length) := hid ⟨by have := HDP.out.2.2.len; have := HSP.out.2.2.1; have := HOK.out.2; omega, HDP.out.2.2.len⟩
        have HNB : Hid (n ≤ bs.length + 1) := hid HDF.out.bound
        have HGB : Hid (∀ b ∈ bs, GoodTs b) := hid (fun b hb => by
          have h1 := HDP.out.2.2.rows hb
          have h2 := List.length_take_le fr.length ts
          exact ⟨Nat.le_trans h1.1 (Nat.le_trans (by rw [List.length_take]; omega) HGT.out.1), fun t ht => HGT.out.2 t (List.mem_of_mem_take (h1.2 t ht))⟩)
        have i0 : (fr.length : Int) < (ts.length : Int) := by omega
        have i1 : (0 : Int) ≤ (fr.length : Int) := by omega
        obtain ⟨d0, _⟩ := LA.ints H.out
        obtain ⟨xi, xn⟩ := x
        obtain ⟨y0, y1, y0f, y1f, k1, k1f, hkk, _⟩ := box2 (heap_alloc_new wr (.cells #[.int .i64 0, .slice none 0 0] 44)) (.int .i64 xi) (.slice An xn.length cn)
        obtain ⟨W5, hW5⟩ : ∃ W5, W5 = wr.alloc (.cells #[.int .i64 xi, .slice An xn.length cn] 44) := ⟨_, rfl⟩
        have hE5 : Ext wr W5 := by rw [hW5]; exact Ext.alloc _ _
        obtain ⟨B5, hB5⟩ : ∃ B5, B5 = wr.heap.size := ⟨_, rfl⟩
        have hxb : W5.heap[B5]? = some (.cells #[.int .i64 xi, .slice An xn.length cn] 44 (0, 0)) := by rw [hW5, hB5]; exact heap_alloc_new _ _
        have KX : Hid (∀ w', Ext W5 w' → w'.cell? ⟨B5, 0, none⟩ = some (.int .i64 xi) ∧ w'.cell? ⟨B5, 1, none⟩ = some (.slice An xn.length cn)) := hid fun w' hw => ⟨obj_cell (hw.obj hxb) (i := 0) rfl, obj_cell (hw.obj hxb) (i := 1) rfl⟩
        have HBT : Hid (W5.heap[B5]? = some (.cells #[.int .i64 xi, .slice An xn.length cn] 44 (0, 0))) := hid hxb
        have d5 : (wr.alloc (.cells #[.int .i64 xi, .slice An xn.length cn] 44)).cell? ⟨gs, fr.length, none⟩ = some (.int .i64 (n : Int)) := (Ext.alloc _ _).cell d0
        have HA5 := hid (LA.ext_ H.out hE5)
        have HBI := hid HA5.out.bins
        have HEW : Hid (Ext w W5) := hid HA5.out.ext
        have HSTK := hid H.out.stack
        have HLT : Hid (∀ p ∈ ps, ∀ g, p.2.ownBlock = some g → g < B5) := hid (fun p hp g hg => by
          have := (OBZ.lt H.out.bins g (List.mem_filterMap.2 ⟨p, hp, hg⟩)).2
          omega)
        have HPL : Hid (ps.length = bs.length ∧ ps.length ≤ 7) := hid (by have h1 := congrArg List.length HPS.out; rw [List.length_map] at h1; exact ⟨h1, by have := HSM.out.1; omega⟩)
        clear hkk hxb d0 c0 c1 hnx hE5
        go_wp2
        rw [← hW5, ← hB5]
        clear hW5 hB5 y0 y1 y0f y1f k1 k1f c0r c1r d5
        go_loopw [11] (fun o wr => ∃ j : Nat, o = .int .i64 (j : Int) ∧ Hid (n ≤ j ∧ j ≤ bs.length + 1 ∧ (∀ i, n ≤ i → i < j → i < bs.length ∧ l11fits room (bs.getD i []) ⟨xi, xn⟩ = false) ∧ Ext W5 wr)) (fun o _ => bs.length + 9 - (intOf o).toNat)
        case atStart => exact ⟨n, rfl, hid ⟨Nat.le_refl _, HNB.out, fun i h1 h2 => by omega, Ext.refl _⟩⟩
        case round =>
          obtain ⟨j, rfl, HJ⟩ := hrel
          by_cases hjL : j < bs.length
          · obtain ⟨tv, htv⟩ := map_getD HPS.out hjL
            obtain ⟨q0, _, hz0, _⟩ := OBZ.at_ (HBI.out.ext (EBZ.ok _ _) HJ.out.2.2.2) htv
            have i1 : (j : Int) < (bs.length : Int) := by omega
            have i2 : (0 : Int) ≤ (j : Int) := by omega
            have hj7 : j ≤ 7 := by have := HSM.out.1; omega
            have HTV := hid (OZ.read hz0 (HEW.out.trans HJ.out.2.2.2))
            have KB : Hid (∀ w', Ext wr w' → w'.cell? ⟨gb, j, none⟩ = some tv ∧ w'.cell? ⟨B5, 0, none⟩ = some (.int .i64 xi) ∧ w'.cell? ⟨B5, 1, none⟩ = some (.slice An xn.length cn)) := hid fun w' hw => ⟨hw.cell q0, KX.out _ (HJ.out.2.2.2.trans hw)⟩
            have HDr : Hid (Ext wr wr.drew) := hid (Below.drew (Below.refl _ _))
            have HGD := hid (HGB.out _ (List.mem_of_getElem? (getD_mem hjL)))
            have HTT := hid htv
            clear q0 hz0 htv
            have CALL := HGD
            cases hf : l11fits room (bs.getD j []) ⟨xi, xn⟩ with
            | false =>
              go_wp2
              refine WG.start (fun w' => w'.cell? ⟨gb, j, none⟩ = some tv ∧ w'.cell? ⟨B5, 0, none⟩ = some (.int .i64 xi) ∧ w'.cell? ⟨B5, 1, none⟩ = some (.slice An xn.length cn)) [11,12,13] (by kernel_rfl) (by exact KB.out _ HDr.out) (fun hHeld => ?_)
              obtain ⟨pz, hpz⟩ : ∃ x, x = wr.drew := ⟨_, rfl⟩
              rw [← hpz] at hHeld HDr ⊢
              clear hpz
              (refine WG.take (i := 0) (v := ?_) rfl (by kernel_rfl) (by kernel_rfl) (by kernel_rfl) (by kernel_rfl) (fun _ _ _ h => h) (Or.inl ⟨by rfl, ?_⟩) (by assumption) ?_; rotate_left; (intro w hSw; (try dsimp only at hSw); go_split_ands; go_simp; (try with_reducible rfl)); (try simp only [Act.put, List.setIfInBounds_toArray, List.set_cons_zero, List.set_cons_succ]))
              (refine WG.take (i := 1) (v := ?_) rfl (by kernel_rfl) (by kernel_rfl) (by kernel_rfl) (by kernel_rfl) (fun _ _ _ h => h) (Or.inl ⟨by rfl, ?_⟩) (by assumption) ?_; rotate_left; (intro w hSw; (try dsimp only at hSw); go_split_ands; go_simp; (try with_reducible rfl)); (try simp only [Act.put, List.setIfInBounds_toArray, List.set_cons_zero, List.set_cons_succ]))
              (refine WG.take (i := 2) (v := ?_) rfl (by kernel_rfl) (by kernel_rfl) (by kernel_rfl) (by kernel_rfl) (fun _ _ _ h => h) (Or.inl ⟨by rfl, ?_⟩) (by assumption) ?_; rotate_left; (intro w hSw; (try dsimp only at hSw); go_split_ands; go_simp; (try with_reducible rfl)); (try simp only [Act.put, List.setIfInBounds_toArray, List.set_cons_zero, List.set_cons_succ]))
              (refine WG.take (i := 3) (v := ?_) rfl (by kernel_rfl) (by kernel_rfl) (by kernel_rfl) (by kernel_rfl) (fun _ _ _ h => h) (Or.inl ⟨by rfl, ?_⟩) (by assumption) ?_; rotate_left; (intro w hSw; (try dsimp only at hSw); go_split_ands; go_simp; (try with_reducible rfl)); (try simp only [Act.put, List.setIfInBounds_toArray, List.set_cons_zero, List.set_cons_succ]))
              (refine WG.take (i := 4) (v := ?_) rfl (by kernel_rfl) (by kernel_rfl) (by kernel_rfl) (by kernel_rfl) (fun _ _ _ h => h) (Or.inl ⟨by rfl, ?_⟩) (by assumption) ?_; rotate_left; (intro w hSw; (try dsimp only at hSw); go_split_ands; go_simp; (try with_reducible rfl)); (try simp only [Act.put, List.setIfInBounds_toArray, List.set_cons_zero, List.set_cons_succ]))
              (refine WG.take (i := 5) (v := ?_) rfl (by kernel_rfl) (by kernel_rfl) (by kernel_rfl) (by kernel_rfl) (fun _ _ _ h => h) (Or.inl ⟨by rfl, ?_⟩) (by assumption) ?_; rotate_left; (intro w hSw; (try dsimp only at hSw); go_split_ands; go_simp; (try with_reducible rfl)); (try simp only [Act.put, List.setIfInBounds_toArray, List.set_cons_zero, List.set_cons_succ]))
              (refine WG.take (i := 6) (v := ?_) rfl (by kernel_rfl) (by kernel_rfl) (by kernel_rfl) (by kernel_rfl) (fun _ _ _ h => h) (Or.inl ⟨by rfl, ?_⟩) (by assumption) ?_; rotate_left; (intro w hSw; (try dsimp only at hSw); go_split_ands; go_simp; (try with_reducible rfl)); (try simp only [Act.put, List.setIfInBounds_toArray, List.set_cons_zero, List.set_cons_succ]))
              (refine WG.take (i := 7) (v := ?_) rfl (by kernel_rfl) (by kernel_rfl) (by kernel_rfl) (by kernel_rfl) (fun _ _ _ h => h) (Or.inl ⟨by rfl, ?_⟩) (by assumption) ?_; rotate_left; (intro w hSw; (try dsimp only at hSw); go_split_ands; go_simp; (try with_reducible rfl)); (try simp only [Act.put, List.setIfInBounds_toArray, List.set_cons_zero, List.set_cons_succ]))
              (refine WG.take (i := 8) (v := ?_) rfl (by kernel_rfl) (by kernel_rfl) (by kernel_rfl) (by kernel_rfl) (fun _ _ _ h => h) (Or.inl ⟨by rfl, ?_⟩) (by assumption) ?_; rotate_left; (intro w hSw; (try dsimp only at hSw); go_split_ands; go_simp; (try with_reducible rfl)); (try simp only [Act.put, List.setIfInBounds_toArray, List.set_cons_zero, List.set_cons_succ]))
              (refine WG.take (i := 9) (v := ?_) rfl (by kernel_rfl) (by kernel_rfl) (by kernel_rfl) (by kernel_rfl) (fun _ _ _ h => h) (Or.inl ⟨by rfl, ?_⟩) (by assumption) ?_; rotate_left; (intro w hSw; (try dsimp only at hSw); go_split_ands; go_simp; (try with_reducible rfl)); (try simp only [Act.put, List.setIfInBounds_toArray, List.set_cons_zero, List.set_cons_succ]))
              (refine WG.take (i := 10) (v := ?_) rfl (by kernel_rfl) (by kernel_rfl) (by kernel_rfl) (by kernel_rfl) (fun _ _ _ h => h) (Or.inl ⟨by rfl, ?_⟩) (by assumption) ?_; rotate_left; (intro w hSw; (try dsimp only at hSw); go_split_ands; go_simp; (try with_reducible rfl)); (try simp only [Act.put, List.setIfInBounds_toArray, List.set_cons_zero, List.set_cons_succ]))
              refine WG.last (i := 11) rfl (by kernel_rfl) (by kernel_rfl) (fun K hK => ?_)
              go_simp; refine (iHasRoom _ _ _ room (bs.getD j []) ⟨xi, xn⟩ _ (RI.ext HR.out (HEW.out.trans (HJ.out.2.2.2.trans HDr.out))) (RT.ext HTV.out HDr.out) ⟨_, rfl, RI.ext HNX.out (HEW.out.trans (HJ.out.2.2.2.trans HDr.out))⟩ HLR.out HGD.out HXG.out).mono ?_; rw [hf]; rintro e6 w6 ⟨rfl, hE6⟩; have HE6 := hid (HDr.out.trans hE6); clear hE6; (try dsimp only)
              refine hK.out _ _ ?_
              clear hK K
              (try simp only [Act.put, List.setIfInBounds_toArray, List.set_cons_zero, List.set_cons_succ])
              refine WG.last (i := 12) rfl (by kernel_rfl) (by kernel_rfl) (fun K hK => ?_)
              go_simp
              refine hK.out _ _ ?_
              clear hK K
              (try simp only [Act.put, List.setIfInBounds_toArray, List.set_cons_zero, List.set_cons_succ])
              refine WG.last (i := 13) rfl (by kernel_rfl) (by kernel_rfl) (fun K hK => ?_)
              go_simp
              refine hK.out _ _ ?_
              clear hK K
              (try simp only [Act.put, List.setIfInBounds_toArray, List.set_cons_zero, List.set_cons_succ])
              refine WG.done (by kernel_rfl) ?_
              go_wp2
              go_roundw
              case rel =>
                refine ⟨j + 1, by go_num, hid ⟨by have := HJ.out.1; omega, by omega, fun i h1 h2 => ?_, HJ.out.2.2.2.trans HE6.out⟩⟩
                rcases Nat.lt_or_ge i j with h3 | h3
                · exact HJ.out.2.2.1 i h1 h3
                · rw [show i = j by omega]; exact ⟨hjL, hf⟩
              case measure => simp [intOf]; omega
            | true =>
              have HSA : Hid (StopAt room ⟨xi, xn⟩ bs n j) := hid ⟨HJ.out.1, HJ.out.2.2.1, fun _ => hf⟩
              have HWA : Hid (Ext W5 wr) := hid HJ.out.2.2.2
              go_wp2
              refine WG.start (fun w' => w'.cell? ⟨gb, j, none⟩ = some tv ∧ w'.cell? ⟨B5, 0, none⟩ = some (.int .i64 xi) ∧ w'.cell? ⟨B5, 1, none⟩ = some (.slice An xn.length cn)) [11,12,13] (by kernel_rfl) (by exact KB.out _ HDr.out) (fun hHeld => ?_)
              obtain ⟨pz, hpz⟩ : ∃ x, x = wr.drew := ⟨_, rfl⟩
              rw [← hpz] at hHeld HDr ⊢
              clear hpz
              (refine WG.take (i := 0) (v := ?_) rfl (by kernel_rfl) (by kernel_rfl) (by kernel_rfl) (by kernel_rfl) (fun _ _ _ h => h) (Or.inl ⟨by rfl, ?_⟩) (by assumption) ?_; rotate_left; (intro w hSw; (try dsimp only at hSw); go_split_ands; go_simp; (try with_reducible rfl)); (try simp only [Act.put, List.setIfInBounds_toArray, List.set_cons_zero, List.set_cons_succ]))
              (refine WG.take (i := 1) (v := ?_) rfl (by kernel_rfl) (by kernel_rfl) (by kernel_rfl) (by kernel_rfl) (fun _ _ _ h => h) (Or.inl ⟨by rfl, ?_⟩) (by assumption) ?_; rotate_left; (intro w hSw; (try dsimp only at hSw); go_split_ands; go_simp; (try with_reducible rfl)); (try simp only [Act.put, List.setIfInBounds_toArray, List.set_cons_zero, List.set_cons_succ]))
              (refine WG.take (i := 2) (v := ?_) rfl (by kernel_rfl) (by kernel_rfl) (by kernel_rfl) (by kernel_rfl) (fun _ _ _ h => h) (Or.inl ⟨by rfl, ?_⟩) (by assumption) ?_; rotate_left; (intro w hSw; (try dsimp only at hSw); go_split_ands; go_simp; (try with_reducible rfl)); (try simp only [Act.put, List.setIfInBounds_toArray, List.set_cons_zero, List.set_cons_succ]))
              (refine WG.take (i := 3) (v := ?_) rfl (by kernel_rfl) (by kernel_rfl) (by kernel_rfl) (by kernel_rfl) (fun _ _ _ h => h) (Or.inl ⟨by rfl, ?_⟩) (by assumption) ?_; rotate_left; (intro w hSw; (try dsimp only at hSw); go_split_ands; go_simp; (try with_reducible rfl)); (try simp only [Act.put, List.setIfInBounds_toArray, List.set_cons_zero, List.set_cons_succ]))
              (refine WG.take (i := 4) (v := ?_) rfl (by kernel_rfl) (by kernel_rfl) (by kernel_rfl) (by kernel_rfl) (fun _ _ _ h => h) (Or.inl ⟨by rfl, ?_⟩) (by assumption) ?_; rotate_left; (intro w hSw; (try dsimp only at hSw); go_split_ands; go_simp; (try with_reducible rfl)); (try simp only [Act.put, List.setIfInBounds_toArray, List.set_cons_zero, List.set_cons_succ]))
              (refine WG.take (i := 5) (v := ?_) rfl (by kernel_rfl) (by kernel_rfl) (by kernel_rfl) (by kernel_rfl) (fun _ _ _ h => h) (Or.inl ⟨by rfl, ?_⟩) (by assumption) ?_; rotate_left; (intro w hSw; (try dsimp only at hSw); go_split_ands; go_simp; (try with_reducible rfl)); (try simp only [Act.put, List.setIfInBounds_toArray, List.set_cons_zero, List.set_cons_succ]))
              (refine WG.take (i := 6) (v := ?_) rfl (by kernel_rfl) (by kernel_rfl) (by kernel_rfl) (by kernel_rfl) (fun _ _ _ h => h) (Or.inl ⟨by rfl, ?_⟩) (by assumption) ?_; rotate_left; (intro w hSw; (try dsimp only at hSw); go_split_ands; go_simp; (try with_reducible rfl)); (try simp only [Act.put, List.setIfInBounds_toArray, List.set_cons_zero, List.set_cons_succ]))
              (refine WG.take (i := 7) (v := ?_) rfl (by kernel_rfl) (by kernel_rfl) (by kernel_rfl) (by kernel_rfl) (fun _ _ _ h => h) (Or.inl ⟨by rfl, ?_⟩) (by assumption) ?_; rotate_left; (intro w hSw; (try dsimp only at hSw); go_split_ands; go_simp; (try with_reducible rfl)); (try simp only [Act.put, List.setIfInBounds_toArray, List.set_cons_zero, List.set_cons_succ]))
              (refine WG.take (i := 8) (v := ?_) rfl (by kernel_rfl) (by kernel_rfl) (by kernel_rfl) (by kernel_rfl) (fun _ _ _ h => h) (Or.inl ⟨by rfl, ?_⟩) (by assumption) ?_; rotate_left; (intro w hSw; (try dsimp only at hSw); go_split_ands; go_simp; (try with_reducible rfl)); (try simp only [Act.put, List.setIfInBounds_toArray, List.set_cons_zero, List.set_cons_succ]))
              (refine WG.take (i := 9) (v := ?_) rfl (by kernel_rfl) (by kernel_rfl) (by kernel_rfl) (by kernel_rfl) (fun _ _ _ h => h) (Or.inl ⟨by rfl, ?_⟩) (by assumption) ?_; rotate_left; (intro w hSw; (try dsimp only at hSw); go_split_ands; go_simp; (try with_reducible rfl)); (try simp only [Act.put, List.setIfInBounds_toArray, List.set_cons_zero, List.set_cons_succ]))
              (refine WG.take (i := 10) (v := ?_) rfl (by kernel_rfl) (by kernel_rfl) (by kernel_rfl) (by kernel_rfl) (fun _ _ _ h => h) (Or.inl ⟨by rfl, ?_⟩) (by assumption) ?_; rotate_left; (intro w hSw; (try dsimp only at hSw); go_split_ands; go_simp; (try with_reducible rfl)); (try simp only [Act.put, List.setIfInBounds_toArray, List.set_cons_zero, List.set_cons_succ]))
              refine WG.last (i := 11) rfl (by kernel_rfl) (by kernel_rfl) (fun K hK => ?_)
              go_simp; refine (iHasRoom _ _ _ room (bs.getD j []) ⟨xi, xn⟩ _ (RI.ext HR.out (HEW.out.trans (HJ.out.2.2.2.trans HDr.out))) (RT.ext HTV.out HDr.out) ⟨_, rfl, RI.ext HNX.out (HEW.out.trans (HJ.out.2.2.2.trans HDr.out))⟩ HLR.out HGD.out HXG.out).mono ?_; rw [hf]; rintro e6 w6 ⟨rfl, hE6⟩; have HX5 := hid (HWA.out.trans (HDr.out.trans hE6)); clear hE6; (try dsimp only)
              refine hK.out _ _ ?_
              clear hK K
              (try simp only [Act.put, List.setIfInBounds_toArray, List.set_cons_zero, List.set_cons_succ])
              refine WG.last (i := 12) rfl (by kernel_rfl) (by kernel_rfl) (fun K hK => ?_)
              go_simp
              refine hK.out _ _ ?_
              clear hK K
              (try simp only [Act.put, List.setIfInBounds_toArray, List.set_cons_zero, List.set_cons_succ])
              refine WG.last (i := 13) rfl (by kernel_rfl) (by kernel_rfl) (fun K hK => ?_)
              go_simp
              refine hK.out _ _ ?_
              clear hK K
              (try simp only [Act.put, List.setIfInBounds_toArray, List.set_cons_zero, List.set_cons_succ])
              refine WG.done (by kernel_rfl) ?_
              have g1 : ¬ (bs.length : Int) < (j : Int) := by omega
              have g2 : ((j : Int) == (bs.length : Int)) = false := by simp; omega
              have HLA := hid (HA5.out.ext_ HX5.out)
              obtain ⟨d0, d0f⟩ := LA.ints HLA.out
              have HWJ : Hid (wrap64 ((j : Nat) + 1 : Int) = (j : Int) + 1) := hid (wrap_l hj7)
              have HJ7 := hid hj7
              have HFL : Hid (fr.length ≤ 6) := hid (by have := HOK.out.2; omega)
              have hbx6 := obj_cell (HX5.out.obj HBT.out) (i := 0) rfl
              obtain ⟨W7, hW7⟩ : ∃ W7, W7 = w6.setCell ⟨gs, fr.length, none⟩ (.int .i64 ((j : Int) + 1)) := ⟨_, rfl⟩
              have HA7 : Hid (LA w W7 (.slice (some ⟨gb, 0, none⟩) bs.length cb) (.slice (some ⟨gs, 0, none⟩) (fr.length + 1) cs) (.slice (some ⟨gh, 0, none⟩) fr.length ch) ps fr (j + 1)) := hid (by rw [hW7]; have := LA.next HLA.out (j + 1); simpa using this)
              have HB7 : Hid (W7.heap[B5]? = some (.cells #[.int .i64 xi, .slice An xn.length cn] 44 (0, 0))) := hid (by rw [hW7]; exact obj_far (HX5.out.obj HBT.out) (p := ⟨gs, fr.length, none⟩) (Own.block_far HLA.out.stack (HX5.out.obj HBT.out) (by decide)) _)
              have HZ7 : Hid (W7.heap.size = w6.heap.size) := hid (by rw [hW7]; simp [World.setCell])
              have HSZ7 : Hid (W5.heap.size ≤ W7.heap.size) := hid (by rw [hW7]; simpa [World.setCell] using HX5.out.size)
              clear hbx6
              go_wp2
              rw [← hW7]
              obtain ⟨At1, ct1, htv1, _⟩ := (OBZ.mem HA7.out.bins HTT.out).form
              have htv2 : tv = .slice At1 (bs.getD j []).length ct1 := htv1
              clear htv1
              subst htv2
              have HPS1 := hid HTT.out
              have HBC := hid HB7.out
              have HNB1 : Hid ((Value.slice At1 (bs.getD j []).length ct1).ownBlock ≠ some B5) := hid (fun e => by have := HLT.out _ (List.mem_of_getElem? HTT.out) _ e; omega)
              have HBL : Hid ((bs.getD j []).length ≤ 7) := hid (by
                have h1 := (HDP.out.2.2.rows (List.mem_of_getElem? (getD_mem hjL))).1
                have h2 := HOK.out.2
                rw [List.length_take] at h1
                omega)
              obtain ⟨bl, hbl⟩ : ∃ bl, bl = bs.getD j [] := ⟨_, rfl⟩
              have HBLD := hid hbl
              rw [← hbl] at HPS1 HNB1 HBL ⊢
              clear hbl hW7
              have q0 := (OBZ.at_ HA7.out.bins HPS1.out).1
              have KB1 : Hid (∀ w', Ext W7 w' → w'.cell? ⟨gb, j, none⟩ = some (.slice At1 bl.length ct1) ∧ w'.cell? ⟨B5, 0, none⟩ = some (.int .i64 xi) ∧ w'.cell? ⟨B5, 1, none⟩ = some (.slice An xn.length cn)) := hid fun w' hw => ⟨hw.cell q0, obj_cell (hw.obj HBC.out) (i := 0) rfl, obj_cell (hw.obj HBC.out) (i := 1) rfl⟩
              have HD1 : Hid (Ext W7 W7.drew) := hid (Below.drew (Below.refl _ _))
              clear q0
              refine WG.start (fun w' => w'.cell? ⟨gb, j, none⟩ = some (.slice At1 bl.length ct1) ∧ w'.cell? ⟨B5, 0, none⟩ = some (.int .i64 xi) ∧ w'.cell? ⟨B5, 1, none⟩ = some (.slice An xn.length cn)) [9,10] (by kernel_rfl) (by exact KB1.out _ HD1.out) (fun hHeld => ?_)
              obtain ⟨pz, hpz⟩ : ∃ x, x = W7.drew := ⟨_, rfl⟩
              rw [← hpz] at hHeld HD1 ⊢
              clear hpz
              (refine WG.take (i := 0) (v := ?_) rfl (by kernel_rfl) (by kernel_rfl) (by kernel_rfl) (by kernel_rfl) (fun _ _ _ h => h) (Or.inl ⟨by rfl, ?_⟩) (by assumption) ?_; rotate_left; (intro w hSw; (try dsimp only at hSw); go_split_ands; go_simp; (try with_reducible rfl)); (try simp only [Act.put, List.setIfInBounds_toArray, List.set_cons_zero, List.set_cons_succ]))
              (refine WG.take (i := 1) (v := ?_) rfl (by kernel_rfl) (by kernel_rfl) (by kernel_rfl) (by kernel_rfl) (fun _ _ _ h => h) (Or.inl ⟨by rfl, ?_⟩) (by assumption) ?_; rotate_left; (intro w hSw; (try dsimp only at hSw); go_split_ands; go_simp; (try with_reducible rfl)); (try simp only [Act.put, List.setIfInBounds_toArray, List.set_cons_zero, List.set_cons_succ]))
              (refine WG.take (i := 2) (v := ?_) rfl (by kernel_rfl) (by kernel_rfl) (by kernel_rfl) (by kernel_rfl) (fun _ _ _ h => h) (Or.inl ⟨by rfl, ?_⟩) (by assumption) ?_; rotate_left; (intro w hSw; (try dsimp only at hSw); go_split_ands; go_simp; (try with_reducible rfl)); (try simp only [Act.put, List.setIfInBounds_toArray, List.set_cons_zero, List.set_cons_succ]))
              (refine WG.take (i := 3) (v := ?_) rfl (by kernel_rfl) (by kernel_rfl) (by kernel_rfl) (by kernel_rfl) (fun _ _ _ h => h) (Or.inl ⟨by rfl, ?_⟩) (by assumption) ?_; rotate_left; (intro w hSw; (try dsimp only at hSw); go_split_ands; go_simp; (try with_reducible rfl)); (try simp only [Act.put, List.setIfInBounds_toArray, List.set_cons_zero, List.set_cons_succ]))
              (refine WG.take (i := 4) (v := ?_) rfl (by kernel_rfl) (by kernel_rfl) (by kernel_rfl) (by kernel_rfl) (fun _ _ _ h => h) (Or.inl ⟨by rfl, ?_⟩) (by assumption) ?_; rotate_left; (intro w hSw; (try dsimp only at hSw); go_split_ands; go_simp; (try with_reducible rfl)); (try simp only [Act.put, List.setIfInBounds_toArray, List.set_cons_zero, List.set_cons_succ]))
              (refine WG.take (i := 5) (v := ?_) rfl (by kernel_rfl) (by kernel_rfl) (by kernel_rfl) (by kernel_rfl) (fun _ _ _ h => h) (Or.inl ⟨by rfl, ?_⟩) (by assumption) ?_; rotate_left; (intro w hSw; (try dsimp only at hSw); go_split_ands; go_simp; (try with_reducible rfl)); (try simp only [Act.put, List.setIfInBounds_toArray, List.set_cons_zero, List.set_cons_succ]))
              (refine WG.take (i := 6) (v := ?_) rfl (by kernel_rfl) (by kernel_rfl) (by kernel_rfl) (by kernel_rfl) (fun _ _ _ h => h) (Or.inl ⟨by rfl, ?_⟩) (by assumption) ?_; rotate_left; (intro w hSw; (try dsimp only at hSw); go_split_ands; go_simp; (try with_reducible rfl)); (try simp only [Act.put, List.setIfInBounds_toArray, List.set_cons_zero, List.set_cons_succ]))
              refine WG.one (i := 7) rfl (by kernel_rfl) (fun K hK => ?_)
              go_simp
              refine hK.out _ _ (by exact KB1.out _ (HD1.out.trans (Ext.alloc _ _))) (fun hHeld => ?_)
              clear hK K
              (try simp only [Act.put, List.setIfInBounds_toArray, List.set_cons_zero, List.set_cons_succ])
              have HX9 : Hid (Ext W7 (pz.alloc (.cells #[.int .i64 xi, .slice An xn.length cn] 44))) := hid (HD1.out.trans (Ext.alloc _ _))
              have HV9 : Hid (OZ w (pz.alloc (.cells #[.int .i64 xi, .slice An xn.length cn] 44)) w.heap.size (.slice At1 bl.length ct1) (bl)) := hid (OBZ.mem (HA7.out.bins.ext (EBZ.ok _ _) HX9.out) HPS1.out)
              have hlo9 : w.heap.size ≤ pz.heap.size := (HA7.out.ext.trans HD1.out).size
              refine WG.one (i := 8) rfl (by kernel_rfl) (fun K hK => ?_)
              refine step_append_sl _ (by rfl) _ _ 28 (by rfl) (EZ.ok _) (EZ.flat _) (w.heap.size) 44 EZ.ne i0_task _ 2 32 Tryd.underlying28 hi0_task hz0_task hz1_task hz2_task rfl (by omega) _ (by rfl) _ (HV9.out) _ (by rfl) _ (RSl.laid (cs := [.int .i64 xi, .slice An xn.length cn]) (x := ⟨xi, xn⟩) (heap_alloc_new _ _) rfl ⟨_, rfl, HNX.out⟩) (by have := HBL.out; simp; omega) (by have := HBL.out; simp; omega) ?_ ?_; (focus (first | exact Nat.le_refl _ | (simp; done) | (simp; omega) | omega)); intro v10 w10 hO10 hg10 hat10 hs10; obtain ⟨A10, c10, hv10, _, _⟩ := hO10.form_app; subst hv10; have hgb10 := hs10 _ _ _ _ (by decide) (HX9.out.obj (Own.blk HA7.out.bins).choose_spec); have cgt10 := (World.cell?_of_block (w := (pz.alloc (.cells #[.int .i64 xi, .slice An xn.length cn] 44))) (a := ⟨gb, j, none⟩) (hgb10.trans (HX9.out.obj (Own.blk HA7.out.bins).choose_spec).symm)).trans (KB1.out _ HX9.out).1; have fgt10 := obj_frozen hgb10 j; have hx10 := (hg10.block _ (obj_lt (HX9.out.obj HBC.out)) (fun e => HNB1.out e.symm)).trans (HX9.out.obj HBC.out); have HG10 := hid hg10; have HO10 := hid hO10; have HAT10 := hid hat10; have HS10 := hid hs10; clear hgb10 hg10 hO10 hat10 hs10
              refine hK.out _ _ (by exact ⟨cgt10, obj_cell hx10 (i := 0) rfl, obj_cell hx10 (i := 1) rfl⟩) (fun hHeld => ?_)
              clear hK K
              (try simp only [Act.put, List.setIfInBounds_toArray, List.set_cons_zero, List.set_cons_succ])
              (refine WG.takeP (i := 9) (v := ?_) rfl (by kernel_rfl) (by kernel_rfl) (by kernel_rfl) (by kernel_rfl) (fun _ _ _ h => h) (Or.inl ⟨by rfl, ?_⟩) ?_; rotate_left; (intro w hSw; clear hSw; go_simp; (try with_reducible rfl)); (try simp only [Act.put, List.setIfInBounds_toArray, List.set_cons_zero, List.set_cons_succ]))
              refine WG.last (i := 10) rfl (by kernel_rfl) (by kernel_rfl) (fun K hK => ?_)
              go_simp
              refine hK.out _ _ ?_
              clear hK K
              (try simp only [Act.put, List.setIfInBounds_toArray, List.set_cons_zero, List.set_cons_succ])
              refine WG.done (by kernel_rfl) ?_
              obtain ⟨W11, hW11⟩ : ∃ W11, W11 = w10.setCell ⟨gb, j, none⟩ (.slice A10 ((bl).length + 1) c10) := ⟨_, rfl⟩
              have HA11 : Hid (LA w W11 (.slice (some ⟨gb, 0, none⟩) (bs.length) cb) (.slice (some ⟨gs, 0, none⟩) (fr.length + 1) cs) (.slice (some ⟨gh, 0, none⟩) fr.length ch) ((ps).set j ((bl) ++ [⟨xi, xn⟩], Value.slice A10 ((bl).length + 1) c10)) fr (j + 1)) := hid (by rw [hW11]; exact LA.turn_ HA7.out HPS1.out HX9.out HG10.out HS10.out HO10.out HAT10.out)
              clear hHeld cgt10 fgt10 hx10
              rw [← hW11]
              clear hW11
              go_wp2_with (first
                | (at_builtin; have hlo11 := HA11.out.ext.size; refine wpList_append_sl _ (by rfl) _ _ 22 (by rfl) EI.ok EI.flat (w.heap.size) 3 EI.ne i0_int _ 1 8 Tryd.underlying22 hi0_int hz0_int hz1_int hz2_int rfl (by omega) _ (by rfl) _ (HA11.out.wh.ext EI.ok (Ext.alloc _ _)) _ (by rfl) _ (RSl.laid (cs := [.int .i64 (j : Int)]) (x := (j : Int)) (heap_alloc_new _ _) rfl rfl) (by have := HFL.out; rw [where_len]; simp; omega) (by have := HFL.out; rw [where_len]; simp; omega) ?_ ?_; (focus (first | exact Nat.le_refl _ | (simp; done) | (simp; omega) | omega)); intro v12 w12 hO12 hg12 hat12 hs12; obtain ⟨g12, c12, hv12, _⟩ := Own.row hO12 (by simp); rw [List.length_append, where_len, List.length_singleton] at hv12; subst hv12; have HO12 := hid hO12; have HG12 := hid hg12; have HS12 := hid hs12; clear hO12 hg12 hat12 hs12 hlo11)
                | (at_builtin; have hx12 : Ext w w12 := Ext.grown (HA11.out.ext.trans (Ext.alloc _ _)) HG12.out (Own.lt (HA11.out.wh.ext EI.ok (Ext.alloc _ _))); have hlo12 := hx12.size; have HX12 := hid hx12; have hst12 : OTr w12 w.heap.size (.slice (some ⟨gs, 0, none⟩) (fr.length + 1) cs) (nextsL fr (j + 1)) := Own.same EI.ok (HA11.out.stack.ext EI.ok (Ext.alloc _ _)) (HS12.out.mono (by rintro t (rfl | ht); decide; exact ht.elim)); have HST12 := hid hst12; clear hx12 hst12; refine wpList_append_sl _ (by rfl) _ _ 55 (by rfl) EI.ok EI.flat (w.heap.size) 54 ETr.ne i0_trial _ 1 8 Tryd.underlying55 hi0_trial hz0_trial hz1_trial hz2_trial rfl (by omega) _ (by rfl) _ (HST12.out.ext EI.ok (Ext.alloc _ _)) _ (by rfl) _ (RSl.laid (cs := [.int .i64 0]) (x := (0 : Int)) (heap_alloc_new _ _) rfl rfl) (by have := HFL.out; rw [nexts_len]; simp; omega) (by have := HFL.out; rw [nexts_len]; simp; omega) ?_ ?_; (focus (first | exact Nat.le_refl _ | (simp; done) | (simp; omega) | omega)); intro v13 w13 hO13 hg13 hat13 hs13; obtain ⟨g13, c13, hv13, _⟩ := Own.row hO13 (by simp); rw [List.length_append, nexts_len, List.length_singleton] at hv13; subst hv13; have HO13 := hid hO13; have HG13 := hid hg13; have HS13 := hid hs13; clear hO13 hg13 hat13 hs13 hlo12))
              have HLP : Hid (LA w w13 (.slice (some ⟨gb, 0, none⟩) (bs.length) cb) (.slice (some ⟨g13, 0, none⟩) (fr.length + 1 + 1) c13) (.slice (some ⟨g12, 0, none⟩) (fr.length + 1) c12) ((ps).set j ((bl) ++ [⟨xi, xn⟩], Value.slice A10 ((bl).length + 1) c10)) ((bs, ⟨xi, xn⟩, j + 1) :: fr) 0) := hid (LA.push HA11.out (Own.same EI.ok (HO12.out.ext EI.ok (Ext.alloc _ _)) (HS13.out.mono (by rintro t (rfl | ht); decide; exact ht.elim))) HO13.out ((((Ext.alloc _ _).same _).trans (HS12.out.mono (fun t ht => ht.1))).trans (((Ext.alloc _ _).same _).trans (HS13.out.mono (fun t ht => ht.2)))) (Ext.grown (HX12.out.trans (Ext.alloc _ _)) HG13.out (Own.lt (HST12.out.ext EI.ok (Ext.alloc _ _)))))
              go_roundw
              case rel =>
                refine ⟨gb, cb, g13, c13, g12, c12, 0, putW bs j ⟨xi, xn⟩, ps.set j (bl ++ [⟨xi, xn⟩], Value.slice A10 (bl.length + 1) c10), (bs, ⟨xi, xn⟩, j + 1) :: fr, xs, ?_, rfl, rfl, hid ?_, hid (HDF.out.push HSA.out (.inl hjL)), hid ?_⟩
                · rw [putW_at hjL, List.length_set]
                rotate_left
                · rw [putW_at hjL, List.length_set]; exact HLP.out
                · rw [List.map_set, HPS.out, putW_at hjL, HBLD.out]
              case measure =>
                rw [rkV_eq HLP.out.stack, rkV_eq HSTK.out]
                exact rk_push bs ⟨xi, xn⟩ HFL.out HSA.out.le HJ7.out
          · have HSA : Hid (StopAt room ⟨xi, xn⟩ bs n j) := hid ⟨HJ.out.1, HJ.out.2.2.1, fun h => absurd h hjL⟩
            have HX5 := hid HJ.out.2.2.2
            have i1 : ¬ (j : Int) < (bs.length : Int) := by omega
            by_cases hjg : bs.length < j
            · have g1 : (bs.length : Int) < (j : Int) := by omega
              go_wp2
              refine WG.start (fun w' => True) [] (by kernel_rfl) (by trivial) (fun hHeld => ?_)
              (refine WG.take (i := 0) (v := ?_) rfl (by kernel_rfl) (by kernel_rfl) (by kernel_rfl) (by kernel_rfl) (fun _ _ _ h => h) (Or.inl ⟨by rfl, ?_⟩) (by assumption) ?_; rotate_left; (intro w hSw; (try dsimp only at hSw); go_split_ands; go_simp; (try with_reducible rfl)); (try simp only [Act.put, List.setIfInBounds_toArray, List.set_cons_zero, List.set_cons_succ]))
              (refine WG.take (i := 1) (v := ?_) rfl (by kernel_rfl) (by kernel_rfl) (by kernel_rfl) (by kernel_rfl) (fun _ _ _ h => h) (Or.inl ⟨by rfl, ?_⟩) (by assumption) ?_; rotate_left; (intro w hSw; (try dsimp only at hSw); go_split_ands; go_simp; (try with_reducible rfl)); (try simp only [Act.put, List.setIfInBounds_toArray, List.set_cons_zero, List.set_cons_succ]))
              (refine WG.take (i := 2) (v := ?_) rfl (by kernel_rfl) (by kernel_rfl) (by kernel_rfl) (by kernel_rfl) (fun _ _ _ h => h) (Or.inl ⟨by rfl, ?_⟩) (by assumption) ?_; rotate_left; (intro w hSw; (try dsimp only at hSw); go_split_ands; go_simp; (try with_reducible rfl)); (try simp only [Act.put, List.setIfInBounds_toArray, List.set_cons_zero, List.set_cons_succ]))
              (refine WG.take (i := 3) (v := ?_) rfl (by kernel_rfl) (by kernel_rfl) (by kernel_rfl) (by kernel_rfl) (fun _ _ _ h => h) (Or.inl ⟨by rfl, ?_⟩) (by assumption) ?_; rotate_left; (intro w hSw; (try dsimp only at hSw); go_split_ands; go_simp; (try with_reducible rfl)); (try simp only [Act.put, List.setIfInBounds_toArray, List.set_cons_zero, List.set_cons_succ]))
              (refine WG.take (i := 4) (v := ?_) rfl (by kernel_rfl) (by kernel_rfl) (by kernel_rfl) (by kernel_rfl) (fun _ _ _ h => h) (Or.inl ⟨by rfl, ?_⟩) (by assumption) ?_; rotate_left; (intro w hSw; (try dsimp only at hSw); go_split_ands; go_simp; (try with_reducible rfl)); (try simp only [Act.put, List.setIfInBounds_toArray, List.set_cons_zero, List.set_cons_succ]))
              (refine WG.take (i := 5) rfl (by kernel_rfl) (by kernel_rfl) (by kernel_rfl) (by kernel_rfl) (fun _ _ _ h => h) (Or.inr ⟨?_, rfl⟩) (by assumption) ?_; go_simp; (try simp only [Act.put, List.setIfInBounds_toArray, List.set_cons_zero, List.set_cons_succ]))
              (refine WG.take (i := 6) rfl (by kernel_rfl) (by kernel_rfl) (by kernel_rfl) (by kernel_rfl) (fun _ _ _ h => h) (Or.inr ⟨?_, rfl⟩) (by assumption) ?_; go_simp; (try simp only [Act.put, List.setIfInBounds_toArray, List.set_cons_zero, List.set_cons_succ]))
              (refine WG.take (i := 7) rfl (by kernel_rfl) (by kernel_rfl) (by kernel_rfl) (by kernel_rfl) (fun _ _ _ h => h) (Or.inr ⟨?_, rfl⟩) (by assumption) ?_; go_simp; (try simp only [Act.put, List.setIfInBounds_toArray, List.set_cons_zero, List.set_cons_succ]))
              (refine WG.take (i := 8) rfl (by kernel_rfl) (by kernel_rfl) (by kernel_rfl) (by kernel_rfl) (fun _ _ _ h => h) (Or.inr ⟨?_, rfl⟩) (by assumption) ?_; go_simp; (try simp only [Act.put, List.setIfInBounds_toArray, List.set_cons_zero, List.set_cons_succ]))
              (refine WG.take (i := 9) rfl (by kernel_rfl) (by kernel_rfl) (by kernel_rfl) (by kernel_rfl) (fun _ _ _ h => h) (Or.inr ⟨?_, rfl⟩) (by assumption) ?_; go_simp; (try simp only [Act.put, List.setIfInBounds_toArray, List.set_cons_zero, List.set_cons_succ]))
              (refine WG.take (i := 10) rfl (by kernel_rfl) (by kernel_rfl) (by kernel_rfl) (by kernel_rfl) (fun _ _ _ h => h) (Or.inr ⟨?_, rfl⟩) (by assumption) ?_; go_simp; (try simp only [Act.put, List.setIfInBounds_toArray, List.set_cons_zero, List.set_cons_succ]))
              (refine WG.take (i := 11) rfl (by kernel_rfl) (by kernel_rfl) (by kernel_rfl) (by kernel_rfl) (fun _ _ _ h => h) (Or.inr ⟨?_, rfl⟩) (by assumption) ?_; go_simp; (try simp only [Act.put, List.setIfInBounds_toArray, List.set_cons_zero, List.set_cons_succ]))
              (refine WG.take (i := 12) rfl (by kernel_rfl) (by kernel_rfl) (by kernel_rfl) (by kernel_rfl) (fun _ _ _ h => h) (Or.inr ⟨?_, rfl⟩) (by assumption) ?_; go_simp; (try simp only [Act.put, List.setIfInBounds_toArray, List.set_cons_zero, List.set_cons_succ]))
              (refine WG.take (i := 13) (v := ?_) rfl (by kernel_rfl) (by kernel_rfl) (by kernel_rfl) (by kernel_rfl) (fun _ _ _ h => h) (Or.inl ⟨by rfl, ?_⟩) (by assumption) ?_; rotate_left; (intro w hSw; (try dsimp only at hSw); go_split_ands; go_simp; (try with_reducible rfl)); (try simp only [Act.put, List.setIfInBounds_toArray, List.set_cons_zero, List.set_cons_succ]))
              refine WG.done (by kernel_rfl) ?_
              have HX6 : Hid (Ext W5 wr.drew) := hid (HX5.out.trans (Below.drew (Below.refl _ _)))
              obtain ⟨w6, hw6⟩ : ∃ x, x = wr.drew := ⟨_, rfl⟩
              rw [← hw6] at HX6 ⊢
              clear hw6
              obtain ⟨b0, y, p0, fr', hfr, hp0, hbs, HD2⟩ := Dfs.pop HDF.out HSA.out (.inl hjg)
              subst hfr
              have HLA := hid (HA5.out.ext_ HX6.out)
              have HCUT := hid (LA.cut HLA.out)
              obtain ⟨e0, _, _⟩ := OI.at_ HLA.out.wh (where_last fr' b0 y p0)
              have HBS := hid hbs
              have HDD := hid HD2
              have hpl : p0 < bs.length := by rw [hbs]; exact (List.getElem?_eq_some_iff.1 (putW_get hp0)).1
              have HGT0 : Hid (bs.getD p0 [] = b0.getD p0 [] ++ [y]) := hid (by rw [List.getD_eq_getElem?_getD, hbs, putW_get hp0]; rfl)
              obtain ⟨tv, htv⟩ := map_getD HPS.out hpl
              rw [HGT0.out] at htv
              have hoz := OBZ.mem HCUT.out.bins htv
              obtain ⟨gt, ct, htvs, _⟩ := Own.row hoz (by simp)
              obtain ⟨m, hm⟩ : ∃ m, m = (b0.getD p0 []).length := ⟨_, rfl⟩
              have hle : (b0.getD p0 [] ++ [y]).length = m + 1 := by rw [hm]; simp
              rw [hle] at htvs
              simp only at htvs
              subst htvs
              have hct : m ≤ ct := by
                have h5 := Own.cap hoz
                have h6 : (b0.getD p0 [] ++ [y]).length ≤ ct := h5
                rw [List.length_append, List.length_singleton, ← hm] at h6
                omega
              have hcs : fr'.length + 1 ≤ cs := by have h5 := Own.cap HCUT.out.stack; rw [nexts_len] at h5; exact h5
              have hch : fr'.length ≤ ch := by have h5 := Own.cap HCUT.out.wh; rw [where_len] at h5; exact h5
              have hcb : p0 ≤ cb := by have h5 := Own.cap HCUT.out.bins; have := HPL.out.1; omega
              have HTV := hid htv
              have HOZ := hid hoz
              have HMM := hid hm
              have hm7 : m ≤ 7 := by
                have h1 := (HDP.out.2.2.rows (List.mem_of_getElem? (getD_mem hpl))).1
                have h2 := HOK.out.2
                rw [HGT0.out, hle, List.length_take] at h1
                omega
              have e1 := (OBZ.at_ HCUT.out.bins htv).1
              have i2 : (p0 : Int) < (bs.length : Int) := by omega
              have i3 : (0 : Int) ≤ (p0 : Int) := by omega
              have HP7 : Hid (p0 ≤ bs.length ∧ p0 ≤ b0.length) := hid ⟨by omega, hp0⟩
              have hnn : n ≤ 8 := by have := HNB.out; have := HSM.out.1; omega
              have HNN := hid hnn
              have hp7 : p0 ≤ 7 := by have := HSM.out.1; omega
              have hfr7 : fr'.length ≤ 7 := by have h1 := HOK.out.2; have h2 : fr'.length + 1 < ts.length := hkt; omega
              clear hbs HD2 htv hoz hm hle hnn
              simp only [List.length_cons]
              go_upto_region 17 with fail
              have KP : Hid (∀ w', Ext w6 w' → w'.cell? ⟨gb, p0, none⟩ = some (.slice (some ⟨gt, 0, none⟩) (m + 1) ct)) := hid fun w' hw => hw.cell e1
              have HDp : Hid (Ext w6 w6.drew) := hid (Below.drew (Below.refl _ _))
              have hwm : IntKind.i64.wrap (m : Int) = (m : Int) := by rw [IntKind.wrap_i64]; omega
              clear e0 e1
              refine WG.start (fun w' => w'.cell? ⟨gb, p0, none⟩ = some (.slice (some ⟨gt, 0, none⟩) (m + 1) ct)) [14] (by kernel_rfl) (by exact KP.out _ HDp.out) (fun hHeld => ?_)
              obtain ⟨pz, hpz⟩ : ∃ x, x = w6.drew := ⟨_, rfl⟩
              rw [← hpz] at hHeld HDp ⊢
              clear hpz
              (refine WG.take (i := 0) (v := ?_) rfl (by kernel_rfl) (by kernel_rfl) (by kernel_rfl) (by kernel_rfl) (fun _ _ _ h => h) (Or.inl ⟨by rfl, ?_⟩) (by assumption) ?_; rotate_left; (intro w hSw; (try dsimp only at hSw); go_split_ands; go_simp; (try with_reducible rfl)); (try simp only [Act.put, List.setIfInBounds_toArray, List.set_cons_zero, List.set_cons_succ]))
              (refine WG.take (i := 1) (v := ?_) rfl (by kernel_rfl) (by kernel_rfl) (by kernel_rfl) (by kernel_rfl) (fun _ _ _ h => h) (Or.inl ⟨by rfl, ?_⟩) (by assumption) ?_; rotate_left; (intro w hSw; (try dsimp only at hSw); go_split_ands; go_simp; (try with_reducible rfl)); (try simp only [Act.put, List.setIfInBounds_toArray, List.set_cons_zero, List.set_cons_succ]))
              (refine WG.take (i := 2) (v := ?_) rfl (by kernel_rfl) (by kernel_rfl) (by kernel_rfl) (by kernel_rfl) (fun _ _ _ h => h) (Or.inl ⟨by rfl, ?_⟩) (by assumption) ?_; rotate_left; (intro w hSw; (try dsimp only at hSw); go_split_ands; go_simp; (try with_reducible rfl)); (try simp only [Act.put, List.setIfInBounds_toArray, List.set_cons_zero, List.set_cons_succ]))
              (refine WG.take (i := 3) (v := ?_) rfl (by kernel_rfl) (by kernel_rfl) (by kernel_rfl) (by kernel_rfl) (fun _ _ _ h => h) (Or.inl ⟨by rfl, ?_⟩) (by assumption) ?_; rotate_left; (intro w hSw; (try dsimp only at hSw); go_split_ands; go_simp; (try with_reducible rfl)); (try simp only [Act.put, List.setIfInBounds_toArray, List.set_cons_zero, List.set_cons_succ]))
              (refine WG.take (i := 4) (v := ?_) rfl (by kernel_rfl) (by kernel_rfl) (by kernel_rfl) (by kernel_rfl) (fun _ _ _ h => h) (Or.inl ⟨by rfl, ?_⟩) (by assumption) ?_; rotate_left; (intro w hSw; (try dsimp only at hSw); go_split_ands; go_simp; (try with_reducible rfl)); (try simp only [Act.put, List.setIfInBounds_toArray, List.set_cons_zero, List.set_cons_succ]))
              (refine WG.take (i := 5) (v := ?_) rfl (by kernel_rfl) (by kernel_rfl) (by kernel_rfl) (by kernel_rfl) (fun _ _ _ h => h) (Or.inl ⟨by rfl, ?_⟩) (by assumption) ?_; rotate_left; (intro w hSw; (try dsimp only at hSw); go_split_ands; go_simp; (try with_reducible rfl)); (try simp only [Act.put, List.setIfInBounds_toArray, List.set_cons_zero, List.set_cons_succ]))
              (refine WG.take (i := 6) (v := ?_) rfl (by kernel_rfl) (by kernel_rfl) (by kernel_rfl) (by kernel_rfl) (fun _ _ _ h => h) (Or.inl ⟨by rfl, ?_⟩) (by assumption) ?_; rotate_left; (intro w hSw; (try dsimp only at hSw); go_split_ands; go_simp; (try with_reducible rfl)); (try simp only [Act.put, List.setIfInBounds_toArray, List.set_cons_zero, List.set_cons_succ]))
              (refine WG.take (i := 7) (v := ?_) rfl (by kernel_rfl) (by kernel_rfl) (by kernel_rfl) (by kernel_rfl) (fun _ _ _ h => h) (Or.inl ⟨by rfl, ?_⟩) (by assumption) ?_; rotate_left; (intro w hSw; (try dsimp only at hSw); go_split_ands; go_simp; (try with_reducible rfl)); (try simp only [Act.put, List.setIfInBounds_toArray, List.set_cons_zero, List.set_cons_succ]))
              (refine WG.take (i := 8) (v := ?_) rfl (by kernel_rfl) (by kernel_rfl) (by kernel_rfl) (by kernel_rfl) (fun _ _ _ h => h) (Or.inl ⟨by rfl, ?_⟩) (by assumption) ?_; rotate_left; (intro w hSw; (try dsimp only at hSw); go_split_ands; go_simp; (try with_reducible rfl)); (try simp only [Act.put, List.setIfInBounds_toArray, List.set_cons_zero, List.set_cons_succ]))
              (refine WG.take (i := 9) (v := ?_) rfl (by kernel_rfl) (by kernel_rfl) (by kernel_rfl) (by kernel_rfl) (fun _ _ _ h => h) (Or.inl ⟨by rfl, ?_⟩) (by assumption) ?_; rotate_left; (intro w hSw; (try dsimp only at hSw); go_split_ands; go_simp; (try with_reducible rfl)); (try simp only [Act.put, List.setIfInBounds_toArray, List.set_cons_zero, List.set_cons_succ]))
              (refine WG.take (i := 10) (v := ?_) rfl (by kernel_rfl) (by kernel_rfl) (by kernel_rfl) (by kernel_rfl) (fun _ _ _ h => h) (Or.inl ⟨by rfl, ?_⟩) (by assumption) ?_; rotate_left; (intro w hSw; (try dsimp only at hSw); go_split_ands; go_simp; (try with_reducible rfl)); (try simp only [Act.put, List.setIfInBounds_toArray, List.set_cons_zero, List.set_cons_succ]))
              (refine WG.take (i := 11) (v := ?_) rfl (by kernel_rfl) (by kernel_rfl) (by kernel_rfl) (by kernel_rfl) (fun _ _ _ h => h) (Or.inl ⟨by rfl, ?_⟩) (by assumption) ?_; rotate_left; (intro w hSw; (try dsimp only at hSw); go_split_ands; go_simp; (try with_reducible rfl)); (try simp only [Act.put, List.setIfInBounds_toArray, List.set_cons_zero, List.set_cons_succ]))
              (refine WG.take (i := 12) (v := ?_) rfl (by kernel_rfl) (by kernel_rfl) (by kernel_rfl) (by kernel_rfl) (fun _ _ _ h => h) (Or.inl ⟨by rfl, ?_⟩) (by assumption) ?_; rotate_left; (intro w hSw; (try dsimp only at hSw); go_split_ands; go_simp; (try with_reducible rfl)); (try simp only [Act.put, List.setIfInBounds_toArray, List.set_cons_zero, List.set_cons_succ]))
              (refine WG.take (i := 13) (v := ?_) rfl (by kernel_rfl) (by kernel_rfl) (by kernel_rfl) (by kernel_rfl) (fun _ _ _ h => h) (Or.inl ⟨by rfl, ?_⟩) (by assumption) ?_; rotate_left; (intro w hSw; (try dsimp only at hSw); go_split_ands; go_simp; (try with_reducible rfl)); (try simp only [Act.put, List.setIfInBounds_toArray, List.set_cons_zero, List.set_cons_succ]))
              have fp := (OBZ.at_ (HCUT.out.bins.ext (EBZ.ok _ _) HDp.out) HTV.out).2.1
              refine WG.last (i := 14) rfl (by kernel_rfl) (by kernel_rfl) (fun K hK => ?_)
              go_simp
              refine hK.out _ _ ?_
              clear hK K
              (try simp only [Act.put, List.setIfInBounds_toArray, List.set_cons_zero, List.set_cons_succ])
              refine WG.done (by kernel_rfl) ?_
              obtain ⟨W9, hW9⟩ : ∃ W9, W9 = pz.setCell ⟨gb, p0, none⟩ (.slice (some ⟨gt, 0, none⟩) m ct) := ⟨_, rfl⟩
              have HA9 : Hid (LA w W9 (.slice (some ⟨gb, 0, none⟩) bs.length cb) (.slice (some ⟨gs, 0, none⟩) (fr'.length + 1) cs) (.slice (some ⟨gh, 0, none⟩) fr'.length ch) (ps.set p0 (b0.getD p0 [], Value.slice (some ⟨gt, 0, none⟩) m ct)) fr' (p0 + 1)) := hid (by
                rw [hW9]
                have hz := Own.take_ (n := m) (OBZ.mem (HCUT.out.bins.ext (EBZ.ok _ _) HDp.out) HTV.out) (by show m ≤ (b0.getD p0 [] ++ [y]).length; rw [List.length_append, ← HMM.out]; omega)
                rw [show ((b0.getD p0 [] ++ [y], Value.slice (some ⟨gt, 0, none⟩) (m + 1) ct) : List TaskD × Value).1.take m = b0.getD p0 [] by rw [HMM.out]; exact List.take_left] at hz
                exact LA.turn_ HCUT.out HTV.out HDp.out (World.grownBy.refl pz _) (SameT.refl _ _) hz (.inl rfl))
              rw [← hW9]
              clear hHeld hwm hW9
              have e9 := (OBZ.at_ HA9.out.bins (k := p0) (List.getElem?_set_self (by rw [HPL.out.1]; exact hpl))).1
              simp only at e9
              have HPW : Hid ((ps.set p0 (b0.getD p0 [], Value.slice (some ⟨gt, 0, none⟩) m ct)).map (·.1) = bs.set p0 (b0.getD p0 [])) := hid (by rw [List.map_set, HPS.out])
              by_cases hnew : p0 < b0.length
              · have HM0 : Hid (0 < m) := hid (by
                  have hw0 := (Dfs.depth HFIT.out HDD.out).2.2.fits _ (List.mem_of_getElem? (getD_mem hnew))
                  rw [HMM.out]
                  exact List.length_pos_iff.2 hw0.2)
                have hm0 : ((m : Int) == 0) = false := by have := HM0.out; simp; omega
                have HLB : Hid (bs.length = b0.length) := hid (by rw [HBS.out, putW_at hnew, List.length_set])
                go_wp2
                go_roundw
                case rel =>
                  refine ⟨gb, cb, gs, cs, gh, ch, p0 + 1, b0, ps.set p0 (b0.getD p0 [], Value.slice (some ⟨gt, 0, none⟩) m ct), fr', y :: ⟨xi, xn⟩ :: xs, by rw [HLB.out], rfl, rfl, hid ?_, HDD, hid ?_⟩
                  · rw [HPW.out, HBS.out, putW_undo hnew]
                  · rw [← HLB.out]; exact HA9.out
                case measure =>
                  rw [rkV_eq HA9.out.stack, rkV_eq HSTK.out]
                  exact rk_pop b0 y HNN.out
              · have hpe : p0 = b0.length := by have := HP7.out.2; omega
                have hm0 : m = 0 := by rw [HMM.out, getD_out (by omega)]; rfl
                subst hm0
                have HPE := hid hpe
                have HLS := hid (LA.less HA9.out (m := p0) (by rw [List.length_set]; have := HPL.out.1; have := HP7.out.1; omega))
                clear hpe
                go_wp2
                go_roundw
                case rel =>
                  refine ⟨gb, cb, gs, cs, gh, ch, p0 + 1, b0, (ps.set p0 (b0.getD p0 [], Value.slice (some ⟨gt, 0, none⟩) 0 ct)).take p0, fr', y :: ⟨xi, xn⟩ :: xs, by rw [← HPE.out], rfl, rfl, hid ?_, HDD, hid ?_⟩
                  · rw [List.map_take, HPW.out, HBS.out, HPE.out, putW_undo_new]
                  · rw [← HPE.out]; exact HLS.out
                case measure =>
                  rw [rkV_eq HLS.out.stack, rkV_eq HSTK.out]
                  exact rk_pop b0 y HNN.out
            · have hje : j = bs.length := by omega
              subst hje
              by_cases hmost : bs.length = R.length
              · have g3 : ((bs.length : Int) == (R.length : Int)) = true := by simp; omega
                have HMOST := hid hmost
                clear hmost
                go_wp2
                refine WG.start (fun w' => True) [] (by kernel_rfl) (by trivial) (fun hHeld => ?_)
                (refine WG.take (i := 0) (v := ?_) rfl (by kernel_rfl) (by kernel_rfl) (by kernel_rfl) (by kernel_rfl) (fun _ _ _ h => h) (Or.inl ⟨by rfl, ?_⟩) (by assumption) ?_; rotate_left; (intro w hSw; (try dsimp only at hSw); go_split_ands; go_simp; (try with_reducible rfl)); (try simp only [Act.put, List.setIfInBounds_toArray, List.set_cons_zero, List.set_cons_succ]))
                (refine WG.take (i := 1) (v := ?_) rfl (by kernel_rfl) (by kernel_rfl) (by kernel_rfl) (by kernel_rfl) (fun _ _ _ h => h) (Or.inl ⟨by rfl, ?_⟩) (by assumption) ?_; rotate_left; (intro w hSw; (try dsimp only at hSw); go_split_ands; go_simp; (try with_reducible rfl)); (try simp only [Act.put, List.setIfInBounds_toArray, List.set_cons_zero, List.set_cons_succ]))
                (refine WG.take (i := 2) (v := ?_) rfl (by kernel_rfl) (by kernel_rfl) (by kernel_rfl) (by kernel_rfl) (fun _ _ _ h => h) (Or.inl ⟨by rfl, ?_⟩) (by assumption) ?_; rotate_left; (intro w hSw; (try dsimp only at hSw); go_split_ands; go_simp; (try with_reducible rfl)); (try simp only [Act.put, List.setIfInBounds_toArray, List.set_cons_zero, List.set_cons_succ]))
                (refine WG.take (i := 3) (v := ?_) rfl (by kernel_rfl) (by kernel_rfl) (by kernel_rfl) (by kernel_rfl) (fun _ _ _ h => h) (Or.inl ⟨by rfl, ?_⟩) (by assumption) ?_; rotate_left; (intro w hSw; (try dsimp only at hSw); go_split_ands; go_simp; (try with_reducible rfl)); (try simp only [Act.put, List.setIfInBounds_toArray, List.set_cons_zero, List.set_cons_succ]))
                (refine WG.take (i := 4) (v := ?_) rfl (by kernel_rfl) (by kernel_rfl) (by kernel_rfl) (by kernel_rfl) (fun _ _ _ h => h) (Or.inl ⟨by rfl, ?_⟩) (by assumption) ?_; rotate_left; (intro w hSw; (try dsimp only at hSw); go_split_ands; go_simp; (try with_reducible rfl)); (try simp only [Act.put, List.setIfInBounds_toArray, List.set_cons_zero, List.set_cons_succ]))
                (refine WG.take (i := 5) rfl (by kernel_rfl) (by kernel_rfl) (by kernel_rfl) (by kernel_rfl) (fun _ _ _ h => h) (Or.inr ⟨?_, rfl⟩) (by assumption) ?_; go_simp; (try simp only [Act.put, List.setIfInBounds_toArray, List.set_cons_zero, List.set_cons_succ]))
                (refine WG.take (i := 6) rfl (by kernel_rfl) (by kernel_rfl) (by kernel_rfl) (by kernel_rfl) (fun _ _ _ h => h) (Or.inr ⟨?_, rfl⟩) (by assumption) ?_; go_simp; (try simp only [Act.put, List.setIfInBounds_toArray, List.set_cons_zero, List.set_cons_succ]))
                (refine WG.take (i := 7) rfl (by kernel_rfl) (by kernel_rfl) (by kernel_rfl) (by kernel_rfl) (fun _ _ _ h => h) (Or.inr ⟨?_, rfl⟩) (by assumption) ?_; go_simp; (try simp only [Act.put, List.setIfInBounds_toArray, List.set_cons_zero, List.set_cons_succ]))
                (refine WG.take (i := 8) rfl (by kernel_rfl) (by kernel_rfl) (by kernel_rfl) (by kernel_rfl) (fun _ _ _ h => h) (Or.inr ⟨?_, rfl⟩) (by assumption) ?_; go_simp; (try simp only [Act.put, List.setIfInBounds_toArray, List.set_cons_zero, List.set_cons_succ]))
                (refine WG.take (i := 9) rfl (by kernel_rfl) (by kernel_rfl) (by kernel_rfl) (by kernel_rfl) (fun _ _ _ h => h) (Or.inr ⟨?_, rfl⟩) (by assumption) ?_; go_simp; (try simp only [Act.put, List.setIfInBounds_toArray, List.set_cons_zero, List.set_cons_succ]))
                (refine WG.take (i := 10) rfl (by kernel_rfl) (by kernel_rfl) (by kernel_rfl) (by kernel_rfl) (fun _ _ _ h => h) (Or.inr ⟨?_, rfl⟩) (by assumption) ?_; go_simp; (try simp only [Act.put, List.setIfInBounds_toArray, List.set_cons_zero, List.set_cons_succ]))
                (refine WG.take (i := 11) rfl (by kernel_rfl) (by kernel_rfl) (by kernel_rfl) (by kernel_rfl) (fun _ _ _ h => h) (Or.inr ⟨?_, rfl⟩) (by assumption) ?_; go_simp; (try simp only [Act.put, List.setIfInBounds_toArray, List.set_cons_zero, List.set_cons_succ]))
                (refine WG.take (i := 12) rfl (by kernel_rfl) (by kernel_rfl) (by kernel_rfl) (by kernel_rfl) (fun _ _ _ h => h) (Or.inr ⟨?_, rfl⟩) (by assumption) ?_; go_simp; (try simp only [Act.put, List.setIfInBounds_toArray, List.set_cons_zero, List.set_cons_succ]))
                (refine WG.take (i := 13) (v := ?_) rfl (by kernel_rfl) (by kernel_rfl) (by kernel_rfl) (by kernel_rfl) (fun _ _ _ h => h) (Or.inl ⟨by rfl, ?_⟩) (by assumption) ?_; rotate_left; (intro w hSw; (try dsimp only at hSw); go_split_ands; go_simp; (try with_reducible rfl)); (try simp only [Act.put, List.setIfInBounds_toArray, List.set_cons_zero, List.set_cons_succ]))
                refine WG.done (by kernel_rfl) ?_
                have HX6 : Hid (Ext W5 wr.drew) := hid (HX5.out.trans (Below.drew (Below.refl _ _)))
                obtain ⟨w6, hw6⟩ : ∃ x, x = wr.drew := ⟨_, rfl⟩
                rw [← hw6] at HX6 ⊢
                clear hw6
                obtain ⟨b0, y, p0, fr', hfr, hp0, hbs, HD2⟩ := Dfs.pop HDF.out HSA.out (.inr ⟨rfl, HMOST.out⟩)
                subst hfr
                have HLA := hid (HA5.out.ext_ HX6.out)
                have HCUT := hid (LA.cut HLA.out)
                obtain ⟨e0, _, _⟩ := OI.at_ HLA.out.wh (where_last fr' b0 y p0)
                have HBS := hid hbs
                have HDD := hid HD2
                have hpl : p0 < bs.length := by rw [hbs]; exact (List.getElem?_eq_some_iff.1 (putW_get hp0)).1
                have HGT0 : Hid (bs.getD p0 [] = b0.getD p0 [] ++ [y]) := hid (by rw [List.getD_eq_getElem?_getD, hbs, putW_get hp0]; rfl)
                obtain ⟨tv, htv⟩ := map_getD HPS.out hpl
                rw [HGT0.out] at htv
                have hoz := OBZ.mem HCUT.out.bins htv
                obtain ⟨gt, ct, htvs, _⟩ := Own.row hoz (by simp)
                obtain ⟨m, hm⟩ : ∃ m, m = (b0.getD p0 []).length := ⟨_, rfl⟩
                have hle : (b0.getD p0 [] ++ [y]).length = m + 1 := by rw [hm]; simp
                rw [hle] at htvs
                simp only at htvs
                subst htvs
                have hct : m ≤ ct := by
                  have h5 := Own.cap hoz
                  have h6 : (b0.getD p0 [] ++ [y]).length ≤ ct := h5
                  rw [List.length_append, List.length_singleton, ← hm] at h6
                  omega
                have hcs : fr'.length + 1 ≤ cs := by have h5 := Own.cap HCUT.out.stack; rw [nexts_len] at h5; exact h5
                have hch : fr'.length ≤ ch := by have h5 := Own.cap HCUT.out.wh; rw [where_len] at h5; exact h5
                have hcb : p0 ≤ cb := by have h5 := Own.cap HCUT.out.bins; have := HPL.out.1; omega
                have HTV := hid htv
                have HOZ := hid hoz
                have HMM := hid hm
                have hm7 : m ≤ 7 := by
                  have h1 := (HDP.out.2.2.rows (List.mem_of_getElem? (getD_mem hpl))).1
                  have h2 := HOK.out.2
                  rw [HGT0.out, hle, List.length_take] at h1
                  omega
                have e1 := (OBZ.at_ HCUT.out.bins htv).1
                have i2 : (p0 : Int) < (bs.length : Int) := by omega
                have i3 : (0 : Int) ≤ (p0 : Int) := by omega
                have HP7 : Hid (p0 ≤ bs.length ∧ p0 ≤ b0.length) := hid ⟨by omega, hp0⟩
                have hnn : n ≤ 8 := by have := HNB.out; have := HSM.out.1; omega
                have HNN := hid hnn
                have hp7 : p0 ≤ 7 := by have := HSM.out.1; omega
                have hfr7 : fr'.length ≤ 7 := by have h1 := HOK.out.2; have h2 : fr'.length + 1 < ts.length := hkt; omega
                clear hbs HD2 htv hoz hm hle hnn
                simp only [List.length_cons]
                go_upto_region 17 with fail
                have KP : Hid (∀ w', Ext w6 w' → w'.cell? ⟨gb, p0, none⟩ = some (.slice (some ⟨gt, 0, none⟩) (m + 1) ct)) := hid fun w' hw => hw.cell e1
                have HDp : Hid (Ext w6 w6.drew) := hid (Below.drew (Below.refl _ _))
                have hwm : IntKind.i64.wrap (m : Int) = (m : Int) := by rw [IntKind.wrap_i64]; omega
                clear e0 e1
                refine WG.start (fun w' => w'.cell? ⟨gb, p0, none⟩ = some (.slice (some ⟨gt, 0, none⟩) (m + 1) ct)) [14] (by kernel_rfl) (by exact KP.out _ HDp.out) (fun hHeld => ?_)
                obtain ⟨pz, hpz⟩ : ∃ x, x = w6.drew := ⟨_, rfl⟩
                rw [← hpz] at hHeld HDp ⊢
                clear hpz
                (refine WG.take (i := 0) (v := ?_) rfl (by kernel_rfl) (by kernel_rfl) (by kernel_rfl) (by kernel_rfl) (fun _ _ _ h => h) (Or.inl ⟨by rfl, ?_⟩) (by assumption) ?_; rotate_left; (intro w hSw; (try dsimp only at hSw); go_split_ands; go_simp; (try with_reducible rfl)); (try simp only [Act.put, List.setIfInBounds_toArray, List.set_cons_zero, List.set_cons_succ]))
                (refine WG.take (i := 1) (v := ?_) rfl (by kernel_rfl) (by kernel_rfl) (by kernel_rfl) (by kernel_rfl) (fun _ _ _ h => h) (Or.inl ⟨by rfl, ?_⟩) (by assumption) ?_; rotate_left; (intro w hSw; (try dsimp only at hSw); go_split_ands; go_simp; (try with_reducible rfl)); (try simp only [Act.put, List.setIfInBounds_toArray, List.set_cons_zero, List.set_cons_succ]))
                (refine WG.take (i := 2) (v := ?_) rfl (by kernel_rfl) (by kernel_rfl) (by kernel_rfl) (by kernel_rfl) (fun _ _ _ h => h) (Or.inl ⟨by rfl, ?_⟩) (by assumption) ?_; rotate_left; (intro w hSw; (try dsimp only at hSw); go_split_ands; go_simp; (try with_reducible rfl)); (try simp only [Act.put, List.setIfInBounds_toArray, List.set_cons_zero, List.set_cons_succ]))
                (refine WG.take (i := 3) (v := ?_) rfl (by kernel_rfl) (by kernel_rfl) (by kernel_rfl) (by kernel_rfl) (fun _ _ _ h => h) (Or.inl ⟨by rfl, ?_⟩) (by assumption) ?_; rotate_left; (intro w hSw; (try dsimp only at hSw); go_split_ands; go_simp; (try with_reducible rfl)); (try simp only [Act.put, List.setIfInBounds_toArray, List.set_cons_zero, List.set_cons_succ]))
                (refine WG.take (i := 4) (v := ?_) rfl (by kernel_rfl) (by kernel_rfl) (by kernel_rfl) (by kernel_rfl) (fun _ _ _ h => h) (Or.inl ⟨by rfl, ?_⟩) (by assumption) ?_; rotate_left; (intro w hSw; (try dsimp only at hSw); go_split_ands; go_simp; (try with_reducible rfl)); (try simp only [Act.put, List.setIfInBounds_toArray, List.set_cons_zero, List.set_cons_succ]))
                (refine WG.take (i := 5) (v := ?_) rfl (by kernel_rfl) (by kernel_rfl) (by kernel_rfl) (by kernel_rfl) (fun _ _ _ h => h) (Or.inl ⟨by rfl, ?_⟩) (by assumption) ?_; rotate_left; (intro w hSw; (try dsimp only at hSw); go_split_ands; go_simp; (try with_reducible rfl)); (try simp only [Act.put, List.setIfInBounds_toArray, List.set_cons_zero, List.set_cons_succ]))
                (refine WG.take (i := 6) (v := ?_) rfl (by kernel_rfl) (by kernel_rfl) (by kernel_rfl) (by kernel_rfl) (fun _ _ _ h => h) (Or.inl ⟨by rfl, ?_⟩) (by assumption) ?_; rotate_left; (intro w hSw; (try dsimp only at hSw); go_split_ands; go_simp; (try with_reducible rfl)); (try simp only [Act.put, List.setIfInBounds_toArray, List.set_cons_zero, List.set_cons_succ]))
                (refine WG.take (i := 7) (v := ?_) rfl (by kernel_rfl) (by kernel_rfl) (by kernel_rfl) (by kernel_rfl) (fun _ _ _ h => h) (Or.inl ⟨by rfl, ?_⟩) (by assumption) ?_; rotate_left; (intro w hSw; (try dsimp only at hSw); go_split_ands; go_simp; (try with_reducible rfl)); (try simp only [Act.put, List.setIfInBounds_toArray, List.set_cons_zero, List.set_cons_succ]))
                (refine WG.take (i := 8) (v := ?_) rfl (by kernel_rfl) (by kernel_rfl) (by kernel_rfl) (by kernel_rfl) (fun _ _ _ h => h) (Or.inl ⟨by rfl, ?_⟩) (by assumption) ?_; rotate_left; (intro w hSw; (try dsimp only at hSw); go_split_ands; go_simp; (try with_reducible rfl)); (try simp only [Act.put, List.setIfInBounds_toArray, List.set_cons_zero, List.set_cons_succ]))
                (refine WG.take (i := 9) (v := ?_) rfl (by kernel_rfl) (by kernel_rfl) (by kernel_rfl) (by kernel_rfl) (fun _ _ _ h => h) (Or.inl ⟨by rfl, ?_⟩) (by assumption) ?_; rotate_left; (intro w hSw; (try dsimp only at hSw); go_split_ands; go_simp; (try with_reducible rfl)); (try simp only [Act.put, List.setIfInBounds_toArray, List.set_cons_zero, List.set_cons_succ]))
                (refine WG.take (i := 10) (v := ?_) rfl (by kernel_rfl) (by kernel_rfl) (by kernel_rfl) (by kernel_rfl) (fun _ _ _ h => h) (Or.inl ⟨by rfl, ?_⟩) (by assumption) ?_; rotate_left; (intro w hSw; (try dsimp only at hSw); go_split_ands; go_simp; (try with_reducible rfl)); (try simp only [Act.put, List.setIfInBounds_toArray, List.set_cons_zero, List.set_cons_succ]))
                (refine WG.take (i := 11) (v := ?_) rfl (by kernel_rfl) (by kernel_rfl) (by kernel_rfl) (by kernel_rfl) (fun _ _ _ h => h) (Or.inl ⟨by rfl, ?_⟩) (by assumption) ?_; rotate_left; (intro w hSw; (try dsimp only at hSw); go_split_ands; go_simp; (try with_reducible rfl)); (try simp only [Act.put, List.setIfInBounds_toArray, List.set_cons_zero, List.set_cons_succ]))
                (refine WG.take (i := 12) (v := ?_) rfl (by kernel_rfl) (by kernel_rfl) (by kernel_rfl) (by kernel_rfl) (fun _ _ _ h => h) (Or.inl ⟨by rfl, ?_⟩) (by assumption) ?_; rotate_left; (intro w hSw; (try dsimp only at hSw); go_split_ands; go_simp; (try with_reducible rfl)); (try simp only [Act.put, List.setIfInBounds_toArray, List.set_cons_zero, List.set_cons_succ]))
                (refine WG.take (i := 13) (v := ?_) rfl (by kernel_rfl) (by kernel_rfl) (by kernel_rfl) (by kernel_rfl) (fun _ _ _ h => h) (Or.inl ⟨by rfl, ?_⟩) (by assumption) ?_; rotate_left; (intro w hSw; (try dsimp only at hSw); go_split_ands; go_simp; (try with_reducible rfl)); (try simp only [Act.put, List.setIfInBounds_toArray, List.set_cons_zero, List.set_cons_succ]))
                have fp := (OBZ.at_ (HCUT.out.bins.ext (EBZ.ok _ _) HDp.out) HTV.out).2.1
                refine WG.last (i := 14) rfl (by kernel_rfl) (by kernel_rfl) (fun K hK => ?_)
                go_simp
                refine hK.out _ _ ?_
                clear hK K
                (try simp only [Act.put, List.setIfInBounds_toArray, List.set_cons_zero, List.set_cons_succ])
                refine WG.done (by kernel_rfl) ?_
                obtain ⟨W9, hW9⟩ : ∃ W9, W9 = pz.setCell ⟨gb, p0, none⟩ (.slice (some ⟨gt, 0, none⟩) m ct) := ⟨_, rfl⟩
                have HA9 : Hid (LA w W9 (.slice (some ⟨gb, 0, none⟩) bs.length cb) (.slice (some ⟨gs, 0, none⟩) (fr'.length + 1) cs) (.slice (some ⟨gh, 0, none⟩) fr'.length ch) (ps.set p0 (b0.getD p0 [], Value.slice (some ⟨gt, 0, none⟩) m ct)) fr' (p0 + 1)) := hid (by
                  rw [hW9]
                  have hz := Own.take_ (n := m) (OBZ.mem (HCUT.out.bins.ext (EBZ.ok _ _) HDp.out) HTV.out) (by show m ≤ (b0.getD p0 [] ++ [y]).length; rw [List.length_append, ← HMM.out]; omega)
                  rw [show ((b0.getD p0 [] ++ [y], Value.slice (some ⟨gt, 0, none⟩) (m + 1) ct) : List TaskD × Value).1.take m = b0.getD p0 [] by rw [HMM.out]; exact List.take_left] at hz
                  exact LA.turn_ HCUT.out HTV.out HDp.out (World.grownBy.refl pz _) (SameT.refl _ _) hz (.inl rfl))
                rw [← hW9]
                clear hHeld hwm hW9
                have e9 := (OBZ.at_ HA9.out.bins (k := p0) (List.getElem?_set_self (by rw [HPL.out.1]; exact hpl))).1
                simp only at e9
                have HPW : Hid ((ps.set p0 (b0.getD p0 [], Value.slice (some ⟨gt, 0, none⟩) m ct)).map (·.1) = bs.set p0 (b0.getD p0 [])) := hid (by rw [List.map_set, HPS.out])
                by_cases hnew : p0 < b0.length
                · have HM0 : Hid (0 < m) := hid (by
                    have hw0 := (Dfs.depth HFIT.out HDD.out).2.2.fits _ (List.mem_of_getElem? (getD_mem hnew))
                    rw [HMM.out]
                    exact List.length_pos_iff.2 hw0.2)
                  have hm0 : ((m : Int) == 0) = false := by have := HM0.out; simp; omega
                  have HLB : Hid (bs.length = b0.length) := hid (by rw [HBS.out, putW_at hnew, List.length_set])
                  go_wp2
                  go_roundw
                  case rel =>
                    refine ⟨gb, cb, gs, cs, gh, ch, p0 + 1, b0, ps.set p0 (b0.getD p0 [], Value.slice (some ⟨gt, 0, none⟩) m ct), fr', y :: ⟨xi, xn⟩ :: xs, by rw [HLB.out], rfl, rfl, hid ?_, HDD, hid ?_⟩
                    · rw [HPW.out, HBS.out, putW_undo hnew]
                    · rw [← HLB.out]; exact HA9.out
                  case measure =>
                    rw [rkV_eq HA9.out.stack, rkV_eq HSTK.out]
                    exact rk_pop b0 y HNN.out
                · have hpe : p0 = b0.length := by have := HP7.out.2; omega
                  have hm0 : m = 0 := by rw [HMM.out, getD_out (by omega)]; rfl
                  subst hm0
                  have HPE := hid hpe
                  have HLS := hid (LA.less HA9.out (m := p0) (by rw [List.length_set]; have := HPL.out.1; have := HP7.out.1; omega))
                  clear hpe
                  go_wp2
                  go_roundw
                  case rel =>
                    refine ⟨gb, cb, gs, cs, gh, ch, p0 + 1, b0, (ps.set p0 (b0.getD p0 [], Value.slice (some ⟨gt, 0, none⟩) 0 ct)).take p0, fr', y :: ⟨xi, xn⟩ :: xs, by rw [← HPE.out], rfl, rfl, hid ?_, HDD, hid ?_⟩
                    · rw [List.map_take, HPW.out, HBS.out, HPE.out, putW_undo_new]
                    · rw [← HPE.out]; exact HLS.out
                  case measure =>
                    rw [rkV_eq HLS.out.stack, rkV_eq HSTK.out]
                    exact rk_pop b0 y HNN.out
              · have hlt : bs.length < R.length := by have := HSM.out.2; omega
                have hj7 : bs.length ≤ 7 := HSM.out.1
                go_wp2
                refine WG.start (fun w' => True) [] (by kernel_rfl) (by trivial) (fun hHeld => ?_)
                (refine WG.take (i := 0) (v := ?_) rfl (by kernel_rfl) (by kernel_rfl) (by kernel_rfl) (by kernel_rfl) (fun _ _ _ h => h) (Or.inl ⟨by rfl, ?_⟩) (by assumption) ?_; rotate_left; (intro w hSw; (try dsimp only at hSw); go_split_ands; go_simp; (try with_reducible rfl)); (try simp only [Act.put, List.setIfInBounds_toArray, List.set_cons_zero, List.set_cons_succ]))
                (refine WG.take (i := 1) (v := ?_) rfl (by kernel_rfl) (by kernel_rfl) (by kernel_rfl) (by kernel_rfl) (fun _ _ _ h => h) (Or.inl ⟨by rfl, ?_⟩) (by assumption) ?_; rotate_left; (intro w hSw; (try dsimp only at hSw); go_split_ands; go_simp; (try with_reducible rfl)); (try simp only [Act.put, List.setIfInBounds_toArray, List.set_cons_zero, List.set_cons_succ]))
                (refine WG.take (i := 2) (v := ?_) rfl (by kernel_rfl) (by kernel_rfl) (by kernel_rfl) (by kernel_rfl) (fun _ _ _ h => h) (Or.inl ⟨by rfl, ?_⟩) (by assumption) ?_; rotate_left; (intro w hSw; (try dsimp only at hSw); go_split_ands; go_simp; (try with_reducible rfl)); (try simp only [Act.put, List.setIfInBounds_toArray, List.set_cons_zero, List.set_cons_succ]))
                (refine WG.take (i := 3) (v := ?_) rfl (by kernel_rfl) (by kernel_rfl) (by kernel_rfl) (by kernel_rfl) (fun _ _ _ h => h) (Or.inl ⟨by rfl, ?_⟩) (by assumption) ?_; rotate_left; (intro w hSw; (try dsimp only at hSw); go_split_ands; go_simp; (try with_reducible rfl)); (try simp only [Act.put, List.setIfInBounds_toArray, List.set_cons_zero, List.set_cons_succ]))
                (refine WG.take (i := 4) (v := ?_) rfl (by kernel_rfl) (by kernel_rfl) (by kernel_rfl) (by kernel_rfl) (fun _ _ _ h => h) (Or.inl ⟨by rfl, ?_⟩) (by assumption) ?_; rotate_left; (intro w hSw; (try dsimp only at hSw); go_split_ands; go_simp; (try with_reducible rfl)); (try simp only [Act.put, List.setIfInBounds_toArray, List.set_cons_zero, List.set_cons_succ]))
                (refine WG.take (i := 5) rfl (by kernel_rfl) (by kernel_rfl) (by kernel_rfl) (by kernel_rfl) (fun _ _ _ h => h) (Or.inr ⟨?_, rfl⟩) (by assumption) ?_; go_simp; (try simp only [Act.put, List.setIfInBounds_toArray, List.set_cons_zero, List.set_cons_succ]))
                (refine WG.take (i := 6) rfl (by kernel_rfl) (by kernel_rfl) (by kernel_rfl) (by kernel_rfl) (fun _ _ _ h => h) (Or.inr ⟨?_, rfl⟩) (by assumption) ?_; go_simp; (try simp only [Act.put, List.setIfInBounds_toArray, List.set_cons_zero, List.set_cons_succ]))
                (refine WG.take (i := 7) rfl (by kernel_rfl) (by kernel_rfl) (by kernel_rfl) (by kernel_rfl) (fun _ _ _ h => h) (Or.inr ⟨?_, rfl⟩) (by assumption) ?_; go_simp; (try simp only [Act.put, List.setIfInBounds_toArray, List.set_cons_zero, List.set_cons_succ]))
                (refine WG.take (i := 8) rfl (by kernel_rfl) (by kernel_rfl) (by kernel_rfl) (by kernel_rfl) (fun _ _ _ h => h) (Or.inr ⟨?_, rfl⟩) (by assumption) ?_; go_simp; (try simp only [Act.put, List.setIfInBounds_toArray, List.set_cons_zero, List.set_cons_succ]))
                (refine WG.take (i := 9) rfl (by kernel_rfl) (by kernel_rfl) (by kernel_rfl) (by kernel_rfl) (fun _ _ _ h => h) (Or.inr ⟨?_, rfl⟩) (by assumption) ?_; go_simp; (try simp only [Act.put, List.setIfInBounds_toArray, List.set_cons_zero, List.set_cons_succ]))
                (refine WG.take (i := 10) rfl (by kernel_rfl) (by kernel_rfl) (by kernel_rfl) (by kernel_rfl) (fun _ _ _ h => h) (Or.inr ⟨?_, rfl⟩) (by assumption) ?_; go_simp; (try simp only [Act.put, List.setIfInBounds_toArray, List.set_cons_zero, List.set_cons_succ]))
                (refine WG.take (i := 11) rfl (by kernel_rfl) (by kernel_rfl) (by kernel_rfl) (by kernel_rfl) (fun _ _ _ h => h) (Or.inr ⟨?_, rfl⟩) (by assumption) ?_; go_simp; (try simp only [Act.put, List.setIfInBounds_toArray, List.set_cons_zero, List.set_cons_succ]))
                (refine WG.take (i := 12) rfl (by kernel_rfl) (by kernel_rfl) (by kernel_rfl) (by kernel_rfl) (fun _ _ _ h => h) (Or.inr ⟨?_, rfl⟩) (by assumption) ?_; go_simp; (try simp only [Act.put, List.setIfInBounds_toArray, List.set_cons_zero, List.set_cons_succ]))
                (refine WG.take (i := 13) (v := ?_) rfl (by kernel_rfl) (by kernel_rfl) (by kernel_rfl) (by kernel_rfl) (fun _ _ _ h => h) (Or.inl ⟨by rfl, ?_⟩) (by assumption) ?_; rotate_left; (intro w hSw; (try dsimp only at hSw); go_split_ands; go_simp; (try with_reducible rfl)); (try simp only [Act.put, List.setIfInBounds_toArray, List.set_cons_zero, List.set_cons_succ]))
                refine WG.done (by kernel_rfl) ?_
                have g3 : ((bs.length : Int) == (R.length : Int)) = false := by simp; omega
                have HX6 : Hid (Ext W5 wr.drew) := hid (HX5.out.trans (Below.drew (Below.refl _ _)))
                obtain ⟨w6, hw6⟩ : ∃ x, x = wr.drew := ⟨_, rfl⟩
                rw [← hw6] at HX6 ⊢
                clear hw6 HX5
                have HX5 := hid HX6.out
                have HLA := hid (HA5.out.ext_ HX5.out)
                obtain ⟨d0, d0f⟩ := LA.ints HLA.out
                have HWJ : Hid (wrap64 ((bs.length : Nat) + 1 : Int) = (bs.length : Int) + 1) := hid (wrap_l hj7)
                have HJ7 := hid hj7
                have HFL : Hid (fr.length ≤ 6) := hid (by have := HOK.out.2; omega)
                have hbx6 := obj_cell (HX5.out.obj HBT.out) (i := 0) rfl
                obtain ⟨W7, hW7⟩ : ∃ W7, W7 = w6.setCell ⟨gs, fr.length, none⟩ (.int .i64 ((bs.length : Int) + 1)) := ⟨_, rfl⟩
                have HA7 : Hid (LA w W7 (.slice (some ⟨gb, 0, none⟩) bs.length cb) (.slice (some ⟨gs, 0, none⟩) (fr.length + 1) cs) (.slice (some ⟨gh, 0, none⟩) fr.length ch) ps fr (bs.length + 1)) := hid (by rw [hW7]; have := LA.next HLA.out (bs.length + 1); simpa using this)
                have HB7 : Hid (W7.heap[B5]? = some (.cells #[.int .i64 xi, .slice An xn.length cn] 44 (0, 0))) := hid (by rw [hW7]; exact obj_far (HX5.out.obj HBT.out) (p := ⟨gs, fr.length, none⟩) (Own.block_far HLA.out.stack (HX5.out.obj HBT.out) (by decide)) _)
                have HZ7 : Hid (W7.heap.size = w6.heap.size) := hid (by rw [hW7]; simp [World.setCell])
                have HSZ7 : Hid (W5.heap.size ≤ W7.heap.size) := hid (by rw [hW7]; simpa [World.setCell] using HX5.out.size)
                clear hbx6
                go_wp2_with (at_builtin; rw [← hW7, ← HZ7.out]; have hx8 := (Ext.alloc W7 (.cells #[] 44)).trans (Ext.alloc (W7.alloc (.cells #[] 44)) (.cells #[.slice (some ⟨W7.heap.size, 0, none⟩) 0 0] 28)); have hlo7 := HA7.out.ext.size; refine wpList_append_sl _ (by rfl) _ _ 25 (by rfl) (EBZ.ok _ _) (EBZ.flat _ _) (w.heap.size) 28 EBZ.ne i0_bin _ 1 24 Tryd.underlying25 hi0_bin hz0_bin hz1_bin hz2_bin rfl (by omega) _ (by rfl) _ (HA7.out.bins.ext (EBZ.ok _ _) hx8) _ (by rfl) _ (RSl.laid (cs := [.slice (some ⟨W7.heap.size, 0, none⟩) 0 0]) (x := (([] : List TaskD), Value.slice (some ⟨W7.heap.size, 0, none⟩) 0 0)) (heap_new (by simp)) rfl ⟨rfl, Own.ext (EZ.ok _) (Own.made #[] 0 hlo7 (by omega) rfl) (Ext.alloc _ _)⟩) (by have := HPL.out; simp; omega) (by have := HPL.out; simp; omega) ?_ ?_; (focus (first | exact Nat.le_refl _ | (simp; done) | (simp; omega) | omega)); intro v8 w8 hO8 hg8 hat8 hs8; obtain ⟨g8, c8, hv8, _⟩ := Own.row hO8 (by simp); rw [List.length_append, HPL.out.1, List.length_singleton] at hv8; subst hv8; have HO8 := hid hO8; have HG8 := hid hg8; have HS8 := hid hs8; have HX8 := hid hx8; clear hO8 hg8 hat8 hs8 hx8 hlo7)
                have HA8 : Hid (LA w w8 (.slice (some ⟨g8, 0, none⟩) (bs.length + 1) c8) (.slice (some ⟨gs, 0, none⟩) (fr.length + 1) cs) (.slice (some ⟨gh, 0, none⟩) fr.length ch) (ps ++ [(([] : List TaskD), Value.slice (some ⟨W7.heap.size, 0, none⟩) 0 0)]) fr (bs.length + 1)) := hid (LA.binsTo HA7.out HO8.out (nodup_newB HA7.out.nd (H := W7.heap.size) (fun g hg => (OBZ.lt HA7.out.bins g hg).2) (fun g hg => Nat.le_of_eq (by simpa [Value.ownBlock] using hg))) ((HX8.out.same _).trans HS8.out) (Ext.grown (HA7.out.ext.trans HX8.out) HG8.out (Own.lt (HA7.out.bins.ext (EBZ.ok _ _) HX8.out))))
                have HPS1 : Hid ((ps ++ [([], Value.slice (some ⟨W7.heap.size, 0, none⟩) 0 0)])[bs.length]? = some (([] : List TaskD), Value.slice (some ⟨W7.heap.size, 0, none⟩) 0 0)) := hid (by rw [← HPL.out.1, List.getElem?_append_right (Nat.le_refl _), Nat.sub_self]; rfl)
                have HBC : Hid (w8.heap[B5]? = some (.cells #[.int .i64 xi, .slice An xn.length cn] 44 (0, 0))) := hid (HS8.out _ _ _ _ (by decide) (HX8.out.obj HB7.out))
                have HNB1 : Hid ((Value.slice (some ⟨W7.heap.size, 0, none⟩) 0 0).ownBlock ≠ some B5) := hid (fun e => absurd (by simpa [Value.ownBlock] using e : W7.heap.size = B5) (by have h2 := obj_lt HBT.out; have h3 := HSZ7.out; omega))
                obtain ⟨bl, hbl⟩ : ∃ bl : List TaskD, bl = [] := ⟨_, rfl⟩
                have HBLD := hid hbl
                have HPS1 : Hid ((ps ++ [(([] : List TaskD), Value.slice (some ⟨W7.heap.size, 0, none⟩) 0 0)])[bs.length]? = some (bl, Value.slice (some ⟨W7.heap.size, 0, none⟩) 0 0)) := hid (by rw [hbl]; exact HPS1.out)
                have HBL : Hid (bl.length ≤ 7) := hid (by rw [hbl]; simp)
                clear hbl
                have m1 : (bs.length : Int) < (bs.length : Int) + 1 := by omega
                have m0 : (0 : Int) ≤ (bs.length : Int) := by omega
                clear hW7
                have q0 := (OBZ.at_ HA8.out.bins HPS1.out).1
                have KB1 : Hid (∀ w', Ext w8 w' → w'.cell? ⟨g8, bs.length, none⟩ = some (.slice (some ⟨W7.heap.size, 0, none⟩) 0 0) ∧ w'.cell? ⟨B5, 0, none⟩ = some (.int .i64 xi) ∧ w'.cell? ⟨B5, 1, none⟩ = some (.slice An xn.length cn)) := hid fun w' hw => ⟨hw.cell q0, obj_cell (hw.obj HBC.out) (i := 0) rfl, obj_cell (hw.obj HBC.out) (i := 1) rfl⟩
                have HD1 : Hid (Ext w8 w8.drew) := hid (Below.drew (Below.refl _ _))
                clear q0
                refine WG.start (fun w' => w'.cell? ⟨g8, bs.length, none⟩ = some (.slice (some ⟨W7.heap.size, 0, none⟩) 0 0) ∧ w'.cell? ⟨B5, 0, none⟩ = some (.int .i64 xi) ∧ w'.cell? ⟨B5, 1, none⟩ = some (.slice An xn.length cn)) [9,10] (by kernel_rfl) (by exact KB1.out _ HD1.out) (fun hHeld => ?_)
                obtain ⟨pz, hpz⟩ : ∃ x, x = w8.drew := ⟨_, rfl⟩
                rw [← hpz] at hHeld HD1 ⊢
                clear hpz
                (refine WG.take (i := 0) (v := ?_) rfl (by kernel_rfl) (by kernel_rfl) (by kernel_rfl) (by kernel_rfl) (fun _ _ _ h => h) (Or.inl ⟨by rfl, ?_⟩) (by assumption) ?_; rotate_left; (intro w hSw; (try dsimp only at hSw); go_split_ands; go_simp; (try with_reducible rfl)); (try simp only [Act.put, List.setIfInBounds_toArray, List.set_cons_zero, List.set_cons_succ]))
                (refine WG.take (i := 1) (v := ?_) rfl (by kernel_rfl) (by kernel_rfl) (by kernel_rfl) (by kernel_rfl) (fun _ _ _ h => h) (Or.inl ⟨by rfl, ?_⟩) (by assumption) ?_; rotate_left; (intro w hSw; (try dsimp only at hSw); go_split_ands; go_simp; (try with_reducible rfl)); (try simp only [Act.put, List.setIfInBounds_toArray, List.set_cons_zero, List.set_cons_succ]))
                (refine WG.take (i := 2) (v := ?_) rfl (by kernel_rfl) (by kernel_rfl) (by kernel_rfl) (by kernel_rfl) (fun _ _ _ h => h) (Or.inl ⟨by rfl, ?_⟩) (by assumption) ?_; rotate_left; (intro w hSw; (try dsimp only at hSw); go_split_ands; go_simp; (try with_reducible rfl)); (try simp only [Act.put, List.setIfInBounds_toArray, List.set_cons_zero, List.set_cons_succ]))
                (refine WG.take (i := 3) (v := ?_) rfl (by kernel_rfl) (by kernel_rfl) (by kernel_rfl) (by kernel_rfl) (fun _ _ _ h => h) (Or.inl ⟨by rfl, ?_⟩) (by assumption) ?_; rotate_left; (intro w hSw; (try dsimp only at hSw); go_split_ands; go_simp; (try with_reducible rfl)); (try simp only [Act.put, List.setIfInBounds_toArray, List.set_cons_zero, List.set_cons_succ]))
                (refine WG.take (i := 4) (v := ?_) rfl (by kernel_rfl) (by kernel_rfl) (by kernel_rfl) (by kernel_rfl) (fun _ _ _ h => h) (Or.inl ⟨by rfl, ?_⟩) (by assumption) ?_; rotate_left; (intro w hSw; (try dsimp only at hSw); go_split_ands; go_simp; (try with_reducible rfl)); (try simp only [Act.put, List.setIfInBounds_toArray, List.set_cons_zero, List.set_cons_succ]))
                (refine WG.take (i := 5) (v := ?_) rfl (by kernel_rfl) (by kernel_rfl) (by kernel_rfl) (by kernel_rfl) (fun _ _ _ h => h) (Or.inl ⟨by rfl, ?_⟩) (by assumption) ?_; rotate_left; (intro w hSw; (try dsimp only at hSw); go_split_ands; go_simp; (try with_reducible rfl)); (try simp only [Act.put, List.setIfInBounds_toArray, List.set_cons_zero, List.set_cons_succ]))
                (refine WG.take (i := 6) (v := ?_) rfl (by kernel_rfl) (by kernel_rfl) (by kernel_rfl) (by kernel_rfl) (fun _ _ _ h => h) (Or.inl ⟨by rfl, ?_⟩) (by assumption) ?_; rotate_left; (intro w hSw; (try dsimp only at hSw); go_split_ands; go_simp; (try with_reducible rfl)); (try simp only [Act.put, List.setIfInBounds_toArray, List.set_cons_zero, List.set_cons_succ]))
                refine WG.one (i := 7) rfl (by kernel_rfl) (fun K hK => ?_)
                go_simp
                refine hK.out _ _ (by exact KB1.out _ (HD1.out.trans (Ext.alloc _ _))) (fun hHeld => ?_)
                clear hK K
                (try simp only [Act.put, List.setIfInBounds_toArray, List.set_cons_zero, List.set_cons_succ])
                have HX9 : Hid (Ext w8 (pz.alloc (.cells #[.int .i64 xi, .slice An xn.length cn] 44))) := hid (HD1.out.trans (Ext.alloc _ _))
                have HV9 : Hid (OZ w (pz.alloc (.cells #[.int .i64 xi, .slice An xn.length cn] 44)) w.heap.size (.slice (some ⟨W7.heap.size, 0, none⟩) 0 0) (bl)) := hid (OBZ.mem (HA8.out.bins.ext (EBZ.ok _ _) HX9.out) HPS1.out)
                have hlo9 : w.heap.size ≤ pz.heap.size := (HA8.out.ext.trans HD1.out).size
                refine WG.one (i := 8) rfl (by kernel_rfl) (fun K hK => ?_)
                refine step_append_sl _ (by rfl) _ _ 28 (by rfl) (EZ.ok _) (EZ.flat _) (w.heap.size) 44 EZ.ne i0_task _ 2 32 Tryd.underlying28 hi0_task hz0_task hz1_task hz2_task rfl (by omega) _ (by rfl) _ (HV9.out) _ (by rfl) _ (RSl.laid (cs := [.int .i64 xi, .slice An xn.length cn]) (x := ⟨xi, xn⟩) (heap_alloc_new _ _) rfl ⟨_, rfl, HNX.out⟩) (by have := HBL.out; simp; omega) (by have := HBL.out; simp; omega) ?_ ?_; (focus (first | exact Nat.le_refl _ | (simp; done) | (simp; omega) | omega)); intro v10 w10 hO10 hg10 hat10 hs10; obtain ⟨A10, c10, hv10, _, _⟩ := hO10.form_app; subst hv10; have hgb10 := hs10 _ _ _ _ (by decide) (HX9.out.obj (Own.blk HA8.out.bins).choose_spec); have cgt10 := (World.cell?_of_block (w := (pz.alloc (.cells #[.int .i64 xi, .slice An xn.length cn] 44))) (a := ⟨g8, bs.length, none⟩) (hgb10.trans (HX9.out.obj (Own.blk HA8.out.bins).choose_spec).symm)).trans (KB1.out _ HX9.out).1; have fgt10 := obj_frozen hgb10 bs.length; have hx10 := (hg10.block _ (obj_lt (HX9.out.obj HBC.out)) (fun e => HNB1.out e.symm)).trans (HX9.out.obj HBC.out); have HG10 := hid hg10; have HO10 := hid hO10; have HAT10 := hid hat10; have HS10 := hid hs10; clear hgb10 hg10 hO10 hat10 hs10
                refine hK.out _ _ (by exact ⟨cgt10, obj_cell hx10 (i := 0) rfl, obj_cell hx10 (i := 1) rfl⟩) (fun hHeld => ?_)
                clear hK K
                (try simp only [Act.put, List.setIfInBounds_toArray, List.set_cons_zero, List.set_cons_succ])
                (refine WG.takeP (i := 9) (v := ?_) rfl (by kernel_rfl) (by kernel_rfl) (by kernel_rfl) (by kernel_rfl) (fun _ _ _ h => h) (Or.inl ⟨by rfl, ?_⟩) ?_; rotate_left; (intro w hSw; clear hSw; go_simp; (try with_reducible rfl)); (try simp only [Act.put, List.setIfInBounds_toArray, List.set_cons_zero, List.set_cons_succ]))
                refine WG.last (i := 10) rfl (by kernel_rfl) (by kernel_rfl) (fun K hK => ?_)
                go_simp
                refine hK.out _ _ ?_
                clear hK K
                (try simp only [Act.put, List.setIfInBounds_toArray, List.set_cons_zero, List.set_cons_succ])
                refine WG.done (by kernel_rfl) ?_
                obtain ⟨W11, hW11⟩ : ∃ W11, W11 = w10.setCell ⟨g8, bs.length, none⟩ (.slice A10 ((bl).length + 1) c10) := ⟨_, rfl⟩
                have HA11 : Hid (LA w W11 (.slice (some ⟨g8, 0, none⟩) (bs.length + 1) c8) (.slice (some ⟨gs, 0, none⟩) (fr.length + 1) cs) (.slice (some ⟨gh, 0, none⟩) fr.length ch) ((ps ++ [(([] : List TaskD), Value.slice (some ⟨W7.heap.size, 0, none⟩) 0 0)]).set bs.length ((bl) ++ [⟨xi, xn⟩], Value.slice A10 ((bl).length + 1) c10)) fr (bs.length + 1)) := hid (by rw [hW11]; exact LA.turn_ HA8.out HPS1.out HX9.out HG10.out HS10.out HO10.out HAT10.out)
                clear hHeld cgt10 fgt10 hx10
                rw [← hW11]
                clear hW11
                go_wp2_with (first
                  | (at_builtin; have hlo11 := HA11.out.ext.size; refine wpList_append_sl _ (by rfl) _ _ 22 (by rfl) EI.ok EI.flat (w.heap.size) 3 EI.ne i0_int _ 1 8 Tryd.underlying22 hi0_int hz0_int hz1_int hz2_int rfl (by omega) _ (by rfl) _ (HA11.out.wh.ext EI.ok (Ext.alloc _ _)) _ (by rfl) _ (RSl.laid (cs := [.int .i64 (bs.length : Int)]) (x := (bs.length : Int)) (heap_alloc_new _ _) rfl rfl) (by have := HFL.out; rw [where_len]; simp; omega) (by have := HFL.out; rw [where_len]; simp; omega) ?_ ?_; (focus (first | exact Nat.le_refl _ | (simp; done) | (simp; omega) | omega)); intro v12 w12 hO12 hg12 hat12 hs12; obtain ⟨g12, c12, hv12, _⟩ := Own.row hO12 (by simp); rw [List.length_append, where_len, List.length_singleton] at hv12; subst hv12; have HO12 := hid hO12; have HG12 := hid hg12; have HS12 := hid hs12; clear hO12 hg12 hat12 hs12 hlo11)
                  | (at_builtin; have hx12 : Ext w w12 := Ext.grown (HA11.out.ext.trans (Ext.alloc _ _)) HG12.out (Own.lt (HA11.out.wh.ext EI.ok (Ext.alloc _ _))); have hlo12 := hx12.size; have HX12 := hid hx12; have hst12 : OTr w12 w.heap.size (.slice (some ⟨gs, 0, none⟩) (fr.length + 1) cs) (nextsL fr (bs.length + 1)) := Own.same EI.ok (HA11.out.stack.ext EI.ok (Ext.alloc _ _)) (HS12.out.mono (by rintro t (rfl | ht); decide; exact ht.elim)); have HST12 := hid hst12; clear hx12 hst12; refine wpList_append_sl _ (by rfl) _ _ 55 (by rfl) EI.ok EI.flat (w.heap.size) 54 ETr.ne i0_trial _ 1 8 Tryd.underlying55 hi0_trial hz0_trial hz1_trial hz2_trial rfl (by omega) _ (by rfl) _ (HST12.out.ext EI.ok (Ext.alloc _ _)) _ (by rfl) _ (RSl.laid (cs := [.int .i64 0]) (x := (0 : Int)) (heap_alloc_new _ _) rfl rfl) (by have := HFL.out; rw [nexts_len]; simp; omega) (by have := HFL.out; rw [nexts_len]; simp; omega) ?_ ?_; (focus (first | exact Nat.le_refl _ | (simp; done) | (simp; omega) | omega)); intro v13 w13 hO13 hg13 hat13 hs13; obtain ⟨g13, c13, hv13, _⟩ := Own.row hO13 (by simp); rw [List.length_append, nexts_len, List.length_singleton] at hv13; subst hv13; have HO13 := hid hO13; have HG13 := hid hg13; have HS13 := hid hs13; clear hO13 hg13 hat13 hs13 hlo12))
                have HLP : Hid (LA w w13 (.slice (some ⟨g8, 0, none⟩) (bs.length + 1) c8) (.slice (some ⟨g13, 0, none⟩) (fr.length + 1 + 1) c13) (.slice (some ⟨g12, 0, none⟩) (fr.length + 1) c12) ((ps ++ [(([] : List TaskD), Value.slice (some ⟨W7.heap.size, 0, none⟩) 0 0)]).set bs.length ((bl) ++ [⟨xi, xn⟩], Value.slice A10 ((bl).length + 1) c10)) ((bs, ⟨xi, xn⟩, bs.length + 1) :: fr) 0) := hid (LA.push HA11.out (Own.same EI.ok (HO12.out.ext EI.ok (Ext.alloc _ _)) (HS13.out.mono (by rintro t (rfl | ht); decide; exact ht.elim))) HO13.out ((((Ext.alloc _ _).same _).trans (HS12.out.mono (fun t ht => ht.1))).trans (((Ext.alloc _ _).same _).trans (HS13.out.mono (fun t ht => ht.2)))) (Ext.grown (HX12.out.trans (Ext.alloc _ _)) HG13.out (Own.lt (HST12.out.ext EI.ok (Ext.alloc _ _)))))
                go_roundw
                case rel =>
                  refine ⟨g8, c8, g13, c13, g12, c12, 0, putW bs bs.length ⟨xi, xn⟩, (ps ++ [(([] : List TaskD), Value.slice (some ⟨W7.heap.size, 0, none⟩) 0 0)]).set bs.length (bl ++ [⟨xi, xn⟩], Value.slice A10 (bl.length + 1) c10), (bs, ⟨xi, xn⟩, bs.length + 1) :: fr, xs, ?_, rfl, rfl, hid ?_, hid (HDF.out.push HSA.out (.inr ⟨rfl, hlt⟩)), hid ?_⟩
                  · rw [putW_new]; simp
                  rotate_left
                  · rw [putW_new, List.length_append]; exact HLP.out
                  · rw [putW_new, ← HPL.out.1, List.set_append_right _ _ (Nat.le_refl _), Nat.sub_self, List.set_cons_zero, List.map_append, HPS.out, HBLD.out]; rfl
                case measure =>
                  rw [rkV_eq HLP.out.stack, rkV_eq HSTK.out]
                  exact rk_push bs ⟨xi, xn⟩ HFL.out HSA.out.le HJ7.out
      · have hrest : rest = [] := List.eq_nil_of_length_eq_zero (by have := HDP.out.1; omega)
        subst hrest
        have HBS : Hid (bs = R) := hid (Dfs.end_ HDF.out)
        have HRB : Hid (RB wr (.slice (some ⟨gb, 0, none⟩) bs.length cb) bs) := hid (by
          have h1 := OBZ.read H.out.bins H.out.ext
          rw [HPS.out] at h1
          exact h1)
        have HLN : Hid (bs.length ≤ 4000000 ∧ ∀ b ∈ bs, b.length ≤ 4000000 ∧ ∀ t ∈ b, t.need.length ≤ 4000000) := hid ⟨by have := HDP.out.2.2.len; have := HSP.out.2.2.1; have := HOK.out.2; omega, fun b hb => by
          have h1 := HDP.out.2.2.rows hb
          have h2 := HOK.out.2
          rw [List.length_take] at h1
          exact ⟨by omega, fun t ht => by have h3 := (HGT.out.2 t (List.mem_of_mem_take (h1.2 t ht))).1; omega⟩⟩
        have i0 : ¬ (fr.length : Int) < (ts.length : Int) := by omega
        have HEE := hid H.out.ext
        go_wp2_with (go_at_call 36; refine (iCopyBinsD _ bs _ HRB.out HLN.out.1 HLN.out.2).mono ?_; rintro e w3 ⟨v3, us3, rfl, ho3, hd3, hn3, hm3, hE3⟩; have HO3 := hid ho3; have HD3 := hid hd3; have HN3 := hid hn3; have HM3 := hid hm3; have HE3 := hid hE3; clear ho3 hd3 hn3 hm3 hE3)
        go_ret
        exact ⟨_, rfl, ⟨us3, ODB.low HO3.out HEE.out.size, by rw [HD3.out, HBS.out, HRS.out], HN3.out, HM3.out⟩, HEE.out.trans HE3.out⟩
  | false =>
    have HRS : Hid (leastAllN room ts = []) := hid (by unfold leastAllN; rw [hq]; rfl)
    go_enter Tryd.func10, Tryd.ntmps10
    go_wp2_with (go_at_call 33; refine (iFew _ _ room ts _ HR.out HT.out HID.out).mono ?_; rw [hq]; rintro e w1 ⟨rfl, hE1⟩; have HE1 := hid hE1; clear hE1)
    go_ret
    exact ⟨_, rfl, by rw [HRS.out]; exact DB.none_ _ _, HE1.out⟩

end Go.Proofs.YtllchacophapoaaDoor
