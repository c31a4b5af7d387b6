/- The reference's usage. -/
import Derived.Test.YtcfpilkhjpegcaaK64
import Derived.Test.YtcfpilkhjpegcaaK3
import Derived.Test.YtcfpilkhjpegcaaK5
import Derived.Test.YtcfpilkhjpegcaaK2
namespace Go.Proofs.Ytcfpilkhjpegcaa
open Go.RowKit
set_option maxRecDepth 4000

theorem sSumU (v : Value) (xs : List Int) (w : World) (h : RI w v xs) (hv : vecOk xs = true) : Calls Try.prog 80 #[v] w (RetN w (sumL xs)) :=
  (sL4Sum v xs w h ((vecOk_bd hv).mono (by omega)) (by rw [vecOk_len hv]; omega)).mono (by rintro e w' ⟨he, n, hw⟩; exact ⟨he, by rw [hw]; exact Ext.drewN _ _⟩)

set_option maxHeartbeats 1000000 in
theorem sL33 (cv : Value) (C : ClusD) (k : Nat) (x : UnitD) (w : World) (h : ClusV w cv C) (hok : clusOk C = true) (hx : C.units[k]? = some x) :
    Calls Try.prog 51 #[cv, .int .i64 k] w (RetN w (leftN C x)) := by
  obtain ⟨rv, uv, rfl, hr, hu⟩ := h
  have hr0 := hr
  obtain ⟨Ar, cr, rfl, q1⟩ := hr
  clear q1
  obtain ⟨A, c, rfl, q1, q2, hg⟩ := hu.get
  have hk : k < C.units.length := (List.getElem?_eq_some_iff.1 hx).1
  obtain ⟨b, o, y, An, cn, rfl, e, c1, c2, hnx⟩ := hg k hk
  obtain rfl : y = x := by have := e.out; rw [hx] at this; injection this with this; exact this.symm
  have hxm := List.mem_of_getElem? hx
  obtain ⟨W, hW⟩ : ∃ W, W = w.alloc (.cells #[.slice Ar C.room.length cr, .slice (some ⟨b, o, none⟩) C.units.length c] 26) := ⟨_, rfl⟩
  have hEW : Ext w W := by rw [hW]; exact Ext.alloc _ _
  have KH : Hid (∀ w', Ext W w' → w'.cell? ⟨w.heap.size, 0, none⟩ = some (.slice Ar C.room.length cr) ∧ w'.cell? ⟨w.heap.size, 1, none⟩ = some (.slice (some ⟨b, o, none⟩) C.units.length c) ∧ w'.cell? ⟨b, o + k * 2 + 1, none⟩ = some (.slice An y.tasks.length cn) ∧ Ext W w') :=
    hid fun w' hw => ⟨hw.cell (by rw [hW]; exact cell_new _ _ _ 0), hw.cell (by rw [hW]; exact cell_new _ _ _ 1), (hEW.trans hw).cell c2, hw⟩
  have HEW := hid hEW
  have HR := hid (hr0.ext hEW)
  have HT := hid (hnx.ext hEW)
  have HV := hid (roomOk_vec (clusOk_room hok))
  have HLV := hid (load_vec hok hxm)
  have HG := hid (clusOk_unit hok hxm).1
  obtain ⟨s1, hs1⟩ : ∃ z, z = sumL C.room := ⟨_, rfl⟩
  obtain ⟨s2, hs2⟩ : ∃ z, z = sumL (loadL y.tasks) := ⟨_, rfl⟩
  have b1 := sumL_vec HV.out
  have b2 := sumL_vec HLV.out
  rw [← hs1] at b1
  rw [← hs2] at b2
  have hw1 : IntKind.i64.wrap (s1 - s2) = s1 - s2 := IntWalk.i64_in _ (by omega)
  have HS1 := hid hs1
  have HS2 := hid hs2
  have i1 : (k : Int) < (C.units.length : Int) := by omega
  have hz : Hid (leftN C y = s1 - s2) := hid (by rw [hs1, hs2]; rfl)
  have hWd : Ext W W.drew := Below.drew (Below.refl _ _)
  clear hs1 hs2 b1 b2 hok hxm hx hg c1 c2 hnx hu hr0 q1 q2 hEW e
  go_enter Try.func51, Try.ntmps51
  go_wp2
  rw [← hW]
  clear hW
  have HZ := hz
  clear hz
  refine WG.start (fun w' => w'.cell? ⟨w.heap.size, 0, none⟩ = some (.slice Ar C.room.length cr) ∧ w'.cell? ⟨w.heap.size, 1, none⟩ = some (.slice (some ⟨b, o, none⟩) C.units.length c) ∧ w'.cell? ⟨b, o + k * 2 + 1, none⟩ = some (.slice An y.tasks.length cn) ∧ Ext W w') [11,12] (by kernel_rfl) (by exact KH.out _ hWd) (fun hHeld => ?_)
  obtain ⟨pz, hpz⟩ : ∃ x, x = W.drew := ⟨_, rfl⟩
  rw [← hpz] at hHeld hWd ⊢
  clear hpz
  have hX := hWd
  clear hWd
  (refine WG.take (i := 0) (v := ?_) rfl (by kernel_rfl) (by kernel_rfl) (by kernel_rfl) (by kernel_rfl) (fun _ _ _ h => h) (Or.inl ⟨by rfl, ?_⟩) (by assumption) ?_; rotate_left; (intro w hSw; (try dsimp only at hSw); go_split_ands; go_simp; (try with_reducible rfl)); (try simp only [Act.put, List.setIfInBounds_toArray, List.set_cons_zero, List.set_cons_succ]))
  (refine WG.take (i := 1) (v := ?_) rfl (by kernel_rfl) (by kernel_rfl) (by kernel_rfl) (by kernel_rfl) (fun _ _ _ h => h) (Or.inl ⟨by rfl, ?_⟩) (by assumption) ?_; rotate_left; (intro w hSw; (try dsimp only at hSw); go_split_ands; go_simp; (try with_reducible rfl)); (try simp only [Act.put, List.setIfInBounds_toArray, List.set_cons_zero, List.set_cons_succ]))
  (refine WG.take (i := 3) (v := ?_) rfl (by kernel_rfl) (by kernel_rfl) (by kernel_rfl) (by kernel_rfl) (fun _ _ _ h => h) (Or.inl ⟨by rfl, ?_⟩) (by assumption) ?_; rotate_left; (intro w hSw; (try dsimp only at hSw); go_split_ands; go_simp; (try with_reducible rfl)); (try simp only [Act.put, List.setIfInBounds_toArray, List.set_cons_zero, List.set_cons_succ]))
  (refine WG.take (i := 4) (v := ?_) rfl (by kernel_rfl) (by kernel_rfl) (by kernel_rfl) (by kernel_rfl) (fun _ _ _ h => h) (Or.inl ⟨by rfl, ?_⟩) (by assumption) ?_; rotate_left; (intro w hSw; (try dsimp only at hSw); go_split_ands; go_simp; (try with_reducible rfl)); (try simp only [Act.put, List.setIfInBounds_toArray, List.set_cons_zero, List.set_cons_succ]))
  (refine WG.take (i := 5) (v := ?_) rfl (by kernel_rfl) (by kernel_rfl) (by kernel_rfl) (by kernel_rfl) (fun _ _ _ h => h) (Or.inl ⟨by rfl, ?_⟩) (by assumption) ?_; rotate_left; (intro w hSw; (try dsimp only at hSw); go_split_ands; go_simp; (try with_reducible rfl)); (try simp only [Act.put, List.setIfInBounds_toArray, List.set_cons_zero, List.set_cons_succ]))
  (refine WG.take (i := 6) (v := ?_) rfl (by kernel_rfl) (by kernel_rfl) (by kernel_rfl) (by kernel_rfl) (fun _ _ _ h => h) (Or.inl ⟨by rfl, ?_⟩) (by assumption) ?_; rotate_left; (intro w hSw; (try dsimp only at hSw); go_split_ands; go_simp; (try with_reducible rfl)); (try simp only [Act.put, List.setIfInBounds_toArray, List.set_cons_zero, List.set_cons_succ]))
  (refine WG.take (i := 7) (v := ?_) rfl (by kernel_rfl) (by kernel_rfl) (by kernel_rfl) (by kernel_rfl) (fun _ _ _ h => h) (Or.inl ⟨by rfl, ?_⟩) (by assumption) ?_; rotate_left; (intro w hSw; (try dsimp only at hSw); go_split_ands; go_simp; (try with_reducible rfl)); (try simp only [Act.put, List.setIfInBounds_toArray, List.set_cons_zero, List.set_cons_succ]))
  (refine WG.take (i := 8) (v := ?_) rfl (by kernel_rfl) (by kernel_rfl) (by kernel_rfl) (by kernel_rfl) (fun _ _ _ h => h) (Or.inl ⟨by rfl, ?_⟩) (by assumption) ?_; rotate_left; (intro w hSw; (try dsimp only at hSw); go_split_ands; go_simp; (try with_reducible rfl)); (try simp only [Act.put, List.setIfInBounds_toArray, List.set_cons_zero, List.set_cons_succ]))
  --REG
  refine WG.one (i := 2) rfl (by kernel_rfl) (fun K hK => ?_)
  go_simp
  refine (sSumU (.slice Ar C.room.length cr) C.room _ (HR.out.ext hX) HV.out).mono ?_
  rw [← HS1.out]
  rintro e p1 ⟨rfl, hE⟩
  (try dsimp only)
  replace hX := hX.trans hE
  refine hK.out _ _ (by exact KH.out _ hX) (fun hHeld => ?_)
  clear hK K hE
  (try simp only [Act.put, List.setIfInBounds_toArray, List.set_cons_zero, List.set_cons_succ])
  refine WG.one (i := 9) rfl (by kernel_rfl) (fun K hK => ?_)
  go_simp
  refine (sLoad (.slice An y.tasks.length cn) y.tasks _ (HT.out.ext hX) HG.out).mono ?_
  rintro e p2 ⟨v2, rfl, hv2, hE⟩
  have HV2 := hid hv2
  clear hv2
  (try dsimp only)
  have hX9 := Ext.refl p2
  replace hX := hX.trans hE
  refine hK.out _ _ (by exact KH.out _ hX) (fun hHeld => ?_)
  clear hK K hE
  (try simp only [Act.put, List.setIfInBounds_toArray, List.set_cons_zero, List.set_cons_succ])
  refine WG.one (i := 10) rfl (by kernel_rfl) (fun K hK => ?_)
  go_simp
  refine (sSumU _ (loadL y.tasks) _ (HV2.out.ext hX9) HLV.out).mono ?_
  rw [← HS2.out]
  rintro e p3 ⟨rfl, hE⟩
  (try dsimp only)
  replace hX9 := hX9.trans hE
  replace hX := hX.trans hE
  refine hK.out _ _ (by exact KH.out _ hX) (fun hHeld => ?_)
  clear hK K hE
  (try simp only [Act.put, List.setIfInBounds_toArray, List.set_cons_zero, List.set_cons_succ])
  refine WG.last (i := 11) rfl (by kernel_rfl) (by kernel_rfl) (fun K hK => ?_)
  go_simp
  refine hK.out _ _ ?_
  clear hK K
  (try simp only [Act.put, List.setIfInBounds_toArray, List.set_cons_zero, List.set_cons_succ])
  refine WG.last (i := 12) rfl (by kernel_rfl) (by kernel_rfl) (fun K hK => ?_)
  go_simp
  refine hK.out _ _ ?_
  clear hK K
  (try simp only [Act.put, List.setIfInBounds_toArray, List.set_cons_zero, List.set_cons_succ])
  refine WG.done (by kernel_rfl) ?_
  go_wp2
  go_ret
  exact ⟨ret_i HZ.out.symm, HEW.out.trans hX⟩
  --GER
end Go.Proofs.Ytcfpilkhjpegcaa

/- The reference's usage, what is left, its share. -/
namespace Go.Proofs.Ytcfpilkhjpegcaa
open Go.RowKit
set_option maxRecDepth 4000

set_option maxHeartbeats 1000000 in
theorem sUsageOf (cv : Value) (C : ClusD) (w : World) (h : ClusV w cv C) (hl : C.units.length ≤ 4000000) (hfl : (C.units.map (·.tasks)).flatten.length ≤ 4000000) :
    Calls Try.prog 18 #[cv] w (RetRI w (usageOf C)) := by
  have HH := hid h
  obtain ⟨rv, uv, rfl, hr, hu⟩ := h
  obtain ⟨Ar, cr, rfl, q1⟩ := hr
  obtain ⟨Au, cu, rfl, q2⟩ := hu
  clear q1 q2
  obtain ⟨W, hW⟩ : ∃ W, W = w.alloc (.cells #[.slice Ar C.room.length cr, .slice Au C.units.length cu] 26) := ⟨_, rfl⟩
  have hEW : Ext w W := by rw [hW]; exact Ext.alloc _ _
  have KB : Hid (∀ w', Ext W w' → w'.cell? ⟨w.heap.size, 0, none⟩ = some (.slice Ar C.room.length cr) ∧ w'.cell? ⟨w.heap.size, 1, none⟩ = some (.slice Au C.units.length cu)) :=
    hid fun w' hw => ⟨hw.cell (by rw [hW]; exact cell_new _ _ _ 0), hw.cell (by rw [hW]; exact cell_new _ _ _ 1)⟩
  obtain ⟨hb0, hb1⟩ := KB.out _ (Ext.refl _)
  have HEW := hid hEW
  clear hEW
  go_enter Try.func18, Try.ntmps18
  cases hv : clusOk C with
  | false =>
    have HV := hid hv
    clear hv
    go_wp2_with (go_at_call 37; rw [← hW]; refine (sClusterValid _ C _ (HH.out.ext HEW.out) hl hfl).mono ?_; rintro e w1 ⟨rfl, hE1⟩; rw [HV.out]; have HE1 := hid hE1; clear hE1 hW)
    go_ret
    refine ⟨_, rfl, ?_, HEW.out.trans (HE1.out.trans (Ext.alloc _ _))⟩
    unfold usageOf
    rw [HV.out]
    exact RSl.nil_ _ _ _ _ _ _ (by omega)
  | true =>
    have HV := hid hv
    clear hv
    have HG := hid (tasksOk_good (binsOk_tk (clusOk_bins HV.out)))
    go_wp2_with (first
      | (go_at_call 37; rw [← hW]; refine (sClusterValid _ C _ (HH.out.ext HEW.out) hl hfl).mono ?_; rintro e w1 ⟨rfl, hE1⟩; rw [HV.out]; clear hb0 hb1; obtain ⟨hb0, hb1⟩ := KB.out _ hE1; have HE1 := hid hE1; clear hE1 hW)
      | (go_at_call 42; refine (sBins21 _ C _ (HH.out.ext (HEW.out.trans HE1.out)) hl).mono ?_; rintro e w2 ⟨v2, rfl, hO2, hE2⟩; have HO2 := hid hO2.read; have HE2 := hid (HE1.out.trans hE2); clear hO2 hE2)
      | (go_at_call 41; refine (sAll _ _ _ HO2.out hfl).mono ?_; rintro e w3 ⟨v3, rfl, hO3, hE3⟩; have HO3 := hid hO3.read; have HE3 := hid (HE2.out.trans hE3); clear hO3 hE3)
      | (go_at_call 40; refine (sLoad _ _ _ HO3.out HG.out).mono ?_; rintro e w4 ⟨v4, rfl, hR4, hE4⟩; have HR4 := hid hR4; have HE4 := hid (HE3.out.trans hE4); clear hR4 hE4))
    go_ret
    refine ⟨_, rfl, ?_, HEW.out.trans HE4.out⟩
    unfold usageOf
    rw [HV.out]
    exact HR4.out

set_option maxHeartbeats 1000000 in
theorem sUsageLeft (cv : Value) (C : ClusD) (w : World) (h : ClusV w cv C) (hl : C.units.length ≤ 4000000) (hfl : (C.units.map (·.tasks)).flatten.length ≤ 4000000) :
    Calls Try.prog 25 #[cv] w (RetN w (leftAll C)) := by
  have HH := hid h
  obtain ⟨rv, uv, rfl, hr, hu⟩ := h
  obtain ⟨Ar, cr, rfl, q1⟩ := hr
  have hu0 := hu
  obtain ⟨Au, cu, rfl, q2, q3, hg⟩ := hu0.get
  clear q1 q2 q3 hu hu0
  obtain ⟨W, hW⟩ : ∃ W, W = w.alloc (.cells #[.slice Ar C.room.length cr, .slice Au C.units.length cu] 26) := ⟨_, rfl⟩
  have hEW : Ext w W := by rw [hW]; exact Ext.alloc _ _
  have KB : Hid (∀ w', Ext W w' → w'.cell? ⟨w.heap.size, 0, none⟩ = some (.slice Ar C.room.length cr) ∧ w'.cell? ⟨w.heap.size, 1, none⟩ = some (.slice Au C.units.length cu)) :=
    hid fun w' hw => ⟨hw.cell (by rw [hW]; exact cell_new _ _ _ 0), hw.cell (by rw [hW]; exact cell_new _ _ _ 1)⟩
  obtain ⟨hb0, hb1⟩ := KB.out _ (Ext.refl _)
  have HEW := hid hEW
  clear hEW
  go_enter Try.func25, Try.ntmps25
  cases hv : clusOk C with
  | false =>
    have HV := hid hv
    clear hv
    go_wp2_with (go_at_call 37; rw [← hW]; refine (sClusterValid _ C _ (HH.out.ext HEW.out) hl hfl).mono ?_; rintro e w1 ⟨rfl, hE1⟩; rw [HV.out]; have HE1 := hid hE1; clear hE1 hW)
    go_ret
    exact ⟨ret_i (by unfold leftAll; rw [HV.out]; rfl), HEW.out.trans HE1.out⟩
  | true =>
    have HV := hid hv
    clear hv
    go_wp2_with (go_at_call 37; rw [← hW]; refine (sClusterValid _ C _ (HH.out.ext HEW.out) hl hfl).mono ?_; rintro e w1 ⟨rfl, hE1⟩; rw [HV.out]; have HE1 := hid hE1; clear hE1 hW hb0 hb1)
    have hl10 := (clusOk_len HV.out).2
    go_loopw [3, 4] (fun s i wr => ∃ (k : Nat) (t : Int), k ≤ C.units.length ∧ i = .int .i64 k ∧ s = .int .i64 t ∧ Hid (t = leftTo C k) ∧ Ext W wr) (fun _ i _ => C.units.length - (intOf i).toNat)
    case atStart => exact ⟨0, 0, Nat.zero_le _, rfl, rfl, hid rfl, HE1.out⟩
    case round =>
      obtain ⟨k, t, hk, rfl, rfl, H, hE⟩ := hrel
      obtain ⟨hb0, hb1⟩ := KB.out _ hE
      have HE := hid hE
      clear hE
      by_cases hlt : k < C.units.length
      · obtain ⟨b, o, x, An, cn, rfl, e, c1, c2, hnx⟩ := hg k hlt
        have i1 : (k : Int) < (C.units.length : Int) := by omega
        have c1r := (HEW.out.trans HE.out).cell c1
        have hsu := leftTo_succ e.out
        have ht := leftTo_bd HV.out k hk
        have htn := leftTo_bd HV.out (k + 1) hlt
        rw [← H.out] at ht hsu
        have HS := hid hsu
        clear c1 c2 hnx hsu
        cases ho : x.opened with
        | true =>
          obtain ⟨z, hz⟩ : ∃ z, z = leftN C x := ⟨_, rfl⟩
          have hzb := leftN_bd HV.out (List.mem_of_getElem? e.out)
          rw [← hz] at hzb
          have hw1 : IntKind.i64.wrap (t + z) = t + z := IntWalk.i64_in _ (by omega)
          have HZ := hid hz
          have HSo : Hid (leftTo C (k + 1) = t + z) := hid (by rw [HS.out, ho, hz]; rfl)
          rw [ho] at c1r
          clear hz hzb htn
          go_wp2_with (go_at_call 51; refine (sL33 _ C k x _ (HH.out.ext (HEW.out.trans HE.out)) HV.out e.out).mono ?_; rw [← HZ.out]; rintro e2 w2 ⟨rfl, hE2⟩; have HE2 := hid (HE.out.trans hE2); clear hE2)
          go_roundw
          case rel => exact ⟨k + 1, t + z, by omega, by go_num, rfl, hid HSo.out.symm, HE2.out⟩
          case measure => simp [intOf]; omega
        | false =>
          rw [ho] at c1r
          have HSo : Hid (leftTo C (k + 1) = t) := hid (by rw [HS.out, ho]; rfl)
          clear htn
          go_wp2
          go_roundw
          case rel => exact ⟨k + 1, t, by omega, by go_num, rfl, hid HSo.out.symm, HE.out⟩
          case measure => simp [intOf]; omega
      · have hge : ¬ (k : Int) < (C.units.length : Int) := by omega
        have hzz := hid hk
        clear hg
        go_wp2
        go_ret
        have hk' : k = C.units.length := by have := hzz.out; omega
        exact ⟨ret_i (by rw [H.out, hk']; unfold leftAll; rw [if_pos HV.out]), HEW.out.trans HE.out⟩
end Go.Proofs.Ytcfpilkhjpegcaa

/- The reference's open node of which most is left. -/
namespace Go.Proofs.Ytcfpilkhjpegcaa
open Go.RowKit
set_option maxRecDepth 4000

set_option maxHeartbeats 2000000 in
theorem sUsageLoosest (cv : Value) (C : ClusD) (w : World) (h : ClusV w cv C) (hl : C.units.length ≤ 4000000) (hfl : (C.units.map (·.tasks)).flatten.length ≤ 4000000) :
    Calls Try.prog 27 #[cv] w (RetN w (loosN C)) := by
  have HH := hid h
  obtain ⟨rv, uv, rfl, hr, hu⟩ := h
  obtain ⟨Ar, cr, rfl, q1⟩ := hr
  have hu0 := hu
  obtain ⟨Au, cu, rfl, q2, q3, hg⟩ := hu0.get
  clear q1 q2 q3 hu hu0
  obtain ⟨W, hW⟩ : ∃ W, W = w.alloc (.cells #[.slice Ar C.room.length cr, .slice Au C.units.length cu] 26) := ⟨_, rfl⟩
  have hEW : Ext w W := by rw [hW]; exact Ext.alloc _ _
  have KB : Hid (∀ w', Ext W w' → w'.cell? ⟨w.heap.size, 0, none⟩ = some (.slice Ar C.room.length cr) ∧ w'.cell? ⟨w.heap.size, 1, none⟩ = some (.slice Au C.units.length cu)) :=
    hid fun w' hw => ⟨hw.cell (by rw [hW]; exact cell_new _ _ _ 0), hw.cell (by rw [hW]; exact cell_new _ _ _ 1)⟩
  have HEW := hid hEW
  clear hEW
  go_enter Try.func27, Try.ntmps27
  go_wp2
  rw [← hW]
  clear hW
  cases hv : clusOk C with
  | false =>
    have HV := hid hv
    clear hv
    go_loopw [3, 4] (fun s i wr => s = .int .i64 (-1) ∧ i = .int .i64 0 ∧ Ext W wr) (fun _ i _ => 0)
    case atStart => exact ⟨rfl, rfl, Ext.refl _⟩
    case round =>
      obtain ⟨rfl, rfl, hE⟩ := hrel
      obtain ⟨hb0, hb1⟩ := KB.out _ hE
      have HE := hid hE
      clear hE
      by_cases hlt : 0 < C.units.length
      · have i1 : (0 : Int) < (C.units.length : Int) := by omega
        go_wp2_with (go_at_call 37; refine (sClusterValid _ C _ (HH.out.ext (HEW.out.trans HE.out)) hl hfl).mono ?_; rintro e w2 ⟨rfl, hE2⟩; rw [HV.out]; have HE2 := hid (HE.out.trans hE2); clear hE2)
        go_ret
        exact ⟨ret_i (by unfold loosN; rw [HV.out]; rfl), HEW.out.trans HE2.out⟩
      · have hge : ¬ (0 : Int) < (C.units.length : Int) := by omega
        clear hg
        go_wp2
        go_ret
        exact ⟨ret_i (by unfold loosN; rw [HV.out]; rfl), HEW.out.trans HE.out⟩
  | true =>
    have HV := hid hv
    clear hv
    have hl10 := (clusOk_len HV.out).2
    go_loopw [3, 4] (fun s i wr => ∃ (k : Nat) (t : Int), k ≤ C.units.length ∧ i = .int .i64 k ∧ s = .int .i64 t ∧ Hid (t = loosTo C k) ∧ Ext W wr) (fun _ i _ => C.units.length - (intOf i).toNat)
    case atStart => exact ⟨0, -1, Nat.zero_le _, rfl, rfl, hid rfl, Ext.refl _⟩
    case round =>
      obtain ⟨k, t, hk, rfl, rfl, H, hE⟩ := hrel
      obtain ⟨hb0, hb1⟩ := KB.out _ hE
      have HE := hid hE
      clear hE
      by_cases hlt : k < C.units.length
      · obtain ⟨b, o, x, An, cn, rfl, e, c1, c2, hnx⟩ := hg k hlt
        have i1 : (k : Int) < (C.units.length : Int) := by omega
        have hsu := loosTo_succ e.out
        have hin := loosTo_inv HV.out k hk
        rw [← H.out] at hsu hin
        have HS := hid hsu
        have HIN := hid hin
        clear c2 hnx hsu hin hg
        go_upto_region 5 with (go_at_call 37; refine (sClusterValid _ C _ (HH.out.ext (HEW.out.trans HE.out)) hl hfl).mono ?_; rintro e2 w2 ⟨rfl, hE2⟩; rw [HV.out]; have HE2 := hid (HE.out.trans hE2); clear hE2)
        clear hb0 hb1
        cases ho : x.opened with
        | false =>
          rw [ho] at c1
          have HSo : Hid (loosTo C (k + 1) = t) := hid (by rw [HS.out, ho]; rfl)
          have KH : Hid (∀ w', Ext W w' → w'.cell? ⟨w.heap.size, 0, none⟩ = some (.slice Ar C.room.length cr) ∧ w'.cell? ⟨w.heap.size, 1, none⟩ = some (.slice (some ⟨b, o, none⟩) C.units.length cu) ∧ w'.cell? ⟨b, o + k * 2, none⟩ = some (.bool false) ∧ Ext W w') := hid fun w' hw => ⟨(KB.out _ hw).1, (KB.out _ hw).2, (HEW.out.trans hw).cell c1, hw⟩
          clear c1
          refine WG.start (fun w' => w'.cell? ⟨w.heap.size, 0, none⟩ = some (.slice Ar C.room.length cr) ∧ w'.cell? ⟨w.heap.size, 1, none⟩ = some (.slice (some ⟨b, o, none⟩) C.units.length cu) ∧ w'.cell? ⟨b, o + k * 2, none⟩ = some (.bool false) ∧ Ext W w') [18] (by kernel_rfl) (by exact KH.out _ (HE2.out.trans (Below.drew (Below.refl _ _)))) (fun hHeld => ?_)
          obtain ⟨pz, hpz⟩ : ∃ x, x = w2.drew := ⟨_, rfl⟩
          have hX : Ext W pz := by rw [hpz]; exact HE2.out.trans (Below.drew (Below.refl _ _))
          rw [← hpz] at hHeld ⊢
          clear hpz
          (refine WG.take (i := 0) (v := ?_) rfl (by kernel_rfl) (by kernel_rfl) (by kernel_rfl) (by kernel_rfl) (fun _ _ _ h => h) (Or.inl ⟨by rfl, ?_⟩) (by assumption) ?_; rotate_left; (intro w hSw; (try dsimp only at hSw); go_split_ands; go_simp; (try with_reducible rfl)); (try simp only [Act.put, List.setIfInBounds_toArray, List.set_cons_zero, List.set_cons_succ]))
          (refine WG.take (i := 1) (v := ?_) rfl (by kernel_rfl) (by kernel_rfl) (by kernel_rfl) (by kernel_rfl) (fun _ _ _ h => h) (Or.inl ⟨by rfl, ?_⟩) (by assumption) ?_; rotate_left; (intro w hSw; (try dsimp only at hSw); go_split_ands; go_simp; (try with_reducible rfl)); (try simp only [Act.put, List.setIfInBounds_toArray, List.set_cons_zero, List.set_cons_succ]))
          (refine WG.take (i := 2) (v := ?_) rfl (by kernel_rfl) (by kernel_rfl) (by kernel_rfl) (by kernel_rfl) (fun _ _ _ h => h) (Or.inl ⟨by rfl, ?_⟩) (by assumption) ?_; rotate_left; (intro w hSw; (try dsimp only at hSw); go_split_ands; go_simp; (try with_reducible rfl)); (try simp only [Act.put, List.setIfInBounds_toArray, List.set_cons_zero, List.set_cons_succ]))
          (refine WG.take (i := 3) (v := ?_) rfl (by kernel_rfl) (by kernel_rfl) (by kernel_rfl) (by kernel_rfl) (fun _ _ _ h => h) (Or.inl ⟨by rfl, ?_⟩) (by assumption) ?_; rotate_left; (intro w hSw; (try dsimp only at hSw); go_split_ands; go_simp; (try with_reducible rfl)); (try simp only [Act.put, List.setIfInBounds_toArray, List.set_cons_zero, List.set_cons_succ]))
          (refine WG.take (i := 4) (v := ?_) rfl (by kernel_rfl) (by kernel_rfl) (by kernel_rfl) (by kernel_rfl) (fun _ _ _ h => h) (Or.inl ⟨by rfl, ?_⟩) (by assumption) ?_; rotate_left; (intro w hSw; (try dsimp only at hSw); go_split_ands; go_simp; (try with_reducible rfl)); (try simp only [Act.put, List.setIfInBounds_toArray, List.set_cons_zero, List.set_cons_succ]))
          (refine WG.take (i := 5) (v := ?_) rfl (by kernel_rfl) (by kernel_rfl) (by kernel_rfl) (by kernel_rfl) (fun _ _ _ h => h) (Or.inl ⟨by rfl, ?_⟩) (by assumption) ?_; rotate_left; (intro w hSw; (try dsimp only at hSw); go_split_ands; go_simp; (try with_reducible rfl)); (try simp only [Act.put, List.setIfInBounds_toArray, List.set_cons_zero, List.set_cons_succ]))
          (refine WG.take (i := 6) (v := ?_) rfl (by kernel_rfl) (by kernel_rfl) (by kernel_rfl) (by kernel_rfl) (fun _ _ _ h => h) (Or.inl ⟨by rfl, ?_⟩) (by assumption) ?_; rotate_left; (intro w hSw; (try dsimp only at hSw); go_split_ands; go_simp; (try with_reducible rfl)); (try simp only [Act.put, List.setIfInBounds_toArray, List.set_cons_zero, List.set_cons_succ]))
          (refine WG.take (i := 7) rfl (by kernel_rfl) (by kernel_rfl) (by kernel_rfl) (by kernel_rfl) (fun _ _ _ h => h) (Or.inr ⟨?_, rfl⟩) (by assumption) ?_; go_simp; (try simp only [Act.put, List.setIfInBounds_toArray, List.set_cons_zero, List.set_cons_succ]))
          (refine WG.take (i := 8) rfl (by kernel_rfl) (by kernel_rfl) (by kernel_rfl) (by kernel_rfl) (fun _ _ _ h => h) (Or.inr ⟨?_, rfl⟩) (by assumption) ?_; go_simp; (try simp only [Act.put, List.setIfInBounds_toArray, List.set_cons_zero, List.set_cons_succ]))
          (refine WG.take (i := 9) rfl (by kernel_rfl) (by kernel_rfl) (by kernel_rfl) (by kernel_rfl) (fun _ _ _ h => h) (Or.inr ⟨?_, rfl⟩) (by assumption) ?_; go_simp; (try simp only [Act.put, List.setIfInBounds_toArray, List.set_cons_zero, List.set_cons_succ]))
          (refine WG.take (i := 10) rfl (by kernel_rfl) (by kernel_rfl) (by kernel_rfl) (by kernel_rfl) (fun _ _ _ h => h) (Or.inr ⟨by rfl, rfl⟩) (by assumption) ?_; (try simp only [Act.put, List.setIfInBounds_toArray, List.set_cons_zero, List.set_cons_succ]))
          (refine WG.take (i := 11) rfl (by kernel_rfl) (by kernel_rfl) (by kernel_rfl) (by kernel_rfl) (fun _ _ _ h => h) (Or.inr ⟨by rfl, rfl⟩) (by assumption) ?_; (try simp only [Act.put, List.setIfInBounds_toArray, List.set_cons_zero, List.set_cons_succ]))
          (refine WG.take (i := 12) rfl (by kernel_rfl) (by kernel_rfl) (by kernel_rfl) (by kernel_rfl) (fun _ _ _ h => h) (Or.inr ⟨by rfl, rfl⟩) (by assumption) ?_; (try simp only [Act.put, List.setIfInBounds_toArray, List.set_cons_zero, List.set_cons_succ]))
          (refine WG.take (i := 13) rfl (by kernel_rfl) (by kernel_rfl) (by kernel_rfl) (by kernel_rfl) (fun _ _ _ h => h) (Or.inr ⟨by rfl, rfl⟩) (by assumption) ?_; (try simp only [Act.put, List.setIfInBounds_toArray, List.set_cons_zero, List.set_cons_succ]))
          (refine WG.take (i := 14) rfl (by kernel_rfl) (by kernel_rfl) (by kernel_rfl) (by kernel_rfl) (fun _ _ _ h => h) (Or.inr ⟨by rfl, rfl⟩) (by assumption) ?_; (try simp only [Act.put, List.setIfInBounds_toArray, List.set_cons_zero, List.set_cons_succ]))
          (refine WG.take (i := 15) rfl (by kernel_rfl) (by kernel_rfl) (by kernel_rfl) (by kernel_rfl) (fun _ _ _ h => h) (Or.inr ⟨by rfl, rfl⟩) (by assumption) ?_; (try simp only [Act.put, List.setIfInBounds_toArray, List.set_cons_zero, List.set_cons_succ]))
          (refine WG.take (i := 16) rfl (by kernel_rfl) (by kernel_rfl) (by kernel_rfl) (by kernel_rfl) (fun _ _ _ h => h) (Or.inr ⟨by rfl, rfl⟩) (by assumption) ?_; (try simp only [Act.put, List.setIfInBounds_toArray, List.set_cons_zero, List.set_cons_succ]))
          (refine WG.take (i := 17) rfl (by kernel_rfl) (by kernel_rfl) (by kernel_rfl) (by kernel_rfl) (fun _ _ _ h => h) (Or.inr ⟨?_, rfl⟩) (by assumption) ?_; go_simp; (try simp only [Act.put, List.setIfInBounds_toArray, List.set_cons_zero, List.set_cons_succ]))
          refine WG.last (i := 18) rfl (by kernel_rfl) (by kernel_rfl) (fun K hK => ?_)
          go_simp
          refine hK.out _ _ ?_
          clear hK K
          (try simp only [Act.put, List.setIfInBounds_toArray, List.set_cons_zero, List.set_cons_succ])
          refine WG.done (by kernel_rfl) ?_
          go_wp2
          go_roundw
          case rel => exact ⟨k + 1, t, by omega, by go_num, rfl, hid HSo.out.symm, hX⟩
          case measure => simp [intOf]; omega
        | true =>
          rw [ho] at c1
          rcases HIN.out with ⟨e9, _⟩ | ⟨j, v, e9, hj, hv, hvo, _⟩
          · have HSo : Hid (loosTo C (k + 1) = k) := hid (by rw [HS.out, ho, e9]; rfl)
            clear HS HIN
            subst e9
            have KH : Hid (∀ w', Ext W w' → w'.cell? ⟨w.heap.size, 0, none⟩ = some (.slice Ar C.room.length cr) ∧ w'.cell? ⟨w.heap.size, 1, none⟩ = some (.slice (some ⟨b, o, none⟩) C.units.length cu) ∧ w'.cell? ⟨b, o + k * 2, none⟩ = some (.bool true) ∧ Ext W w') := hid fun w' hw => ⟨(KB.out _ hw).1, (KB.out _ hw).2, (HEW.out.trans hw).cell c1, hw⟩
            clear c1
            refine WG.start (fun w' => w'.cell? ⟨w.heap.size, 0, none⟩ = some (.slice Ar C.room.length cr) ∧ w'.cell? ⟨w.heap.size, 1, none⟩ = some (.slice (some ⟨b, o, none⟩) C.units.length cu) ∧ w'.cell? ⟨b, o + k * 2, none⟩ = some (.bool true) ∧ Ext W w') [18] (by kernel_rfl) (by exact KH.out _ (HE2.out.trans (Below.drew (Below.refl _ _)))) (fun hHeld => ?_)
            obtain ⟨pz, hpz⟩ : ∃ x, x = w2.drew := ⟨_, rfl⟩
            have hX : Ext W pz := by rw [hpz]; exact HE2.out.trans (Below.drew (Below.refl _ _))
            rw [← hpz] at hHeld ⊢
            clear hpz
            (refine WG.take (i := 0) (v := ?_) rfl (by kernel_rfl) (by kernel_rfl) (by kernel_rfl) (by kernel_rfl) (fun _ _ _ h => h) (Or.inl ⟨by rfl, ?_⟩) (by assumption) ?_; rotate_left; (intro w hSw; (try dsimp only at hSw); go_split_ands; go_simp; (try with_reducible rfl)); (try simp only [Act.put, List.setIfInBounds_toArray, List.set_cons_zero, List.set_cons_succ]))
            (refine WG.take (i := 1) (v := ?_) rfl (by kernel_rfl) (by kernel_rfl) (by kernel_rfl) (by kernel_rfl) (fun _ _ _ h => h) (Or.inl ⟨by rfl, ?_⟩) (by assumption) ?_; rotate_left; (intro w hSw; (try dsimp only at hSw); go_split_ands; go_simp; (try with_reducible rfl)); (try simp only [Act.put, List.setIfInBounds_toArray, List.set_cons_zero, List.set_cons_succ]))
            (refine WG.take (i := 2) (v := ?_) rfl (by kernel_rfl) (by kernel_rfl) (by kernel_rfl) (by kernel_rfl) (fun _ _ _ h => h) (Or.inl ⟨by rfl, ?_⟩) (by assumption) ?_; rotate_left; (intro w hSw; (try dsimp only at hSw); go_split_ands; go_simp; (try with_reducible rfl)); (try simp only [Act.put, List.setIfInBounds_toArray, List.set_cons_zero, List.set_cons_succ]))
            (refine WG.take (i := 3) (v := ?_) rfl (by kernel_rfl) (by kernel_rfl) (by kernel_rfl) (by kernel_rfl) (fun _ _ _ h => h) (Or.inl ⟨by rfl, ?_⟩) (by assumption) ?_; rotate_left; (intro w hSw; (try dsimp only at hSw); go_split_ands; go_simp; (try with_reducible rfl)); (try simp only [Act.put, List.setIfInBounds_toArray, List.set_cons_zero, List.set_cons_succ]))
            (refine WG.take (i := 4) (v := ?_) rfl (by kernel_rfl) (by kernel_rfl) (by kernel_rfl) (by kernel_rfl) (fun _ _ _ h => h) (Or.inl ⟨by rfl, ?_⟩) (by assumption) ?_; rotate_left; (intro w hSw; (try dsimp only at hSw); go_split_ands; go_simp; (try with_reducible rfl)); (try simp only [Act.put, List.setIfInBounds_toArray, List.set_cons_zero, List.set_cons_succ]))
            (refine WG.take (i := 5) (v := ?_) rfl (by kernel_rfl) (by kernel_rfl) (by kernel_rfl) (by kernel_rfl) (fun _ _ _ h => h) (Or.inl ⟨by rfl, ?_⟩) (by assumption) ?_; rotate_left; (intro w hSw; (try dsimp only at hSw); go_split_ands; go_simp; (try with_reducible rfl)); (try simp only [Act.put, List.setIfInBounds_toArray, List.set_cons_zero, List.set_cons_succ]))
            (refine WG.take (i := 6) (v := ?_) rfl (by kernel_rfl) (by kernel_rfl) (by kernel_rfl) (by kernel_rfl) (fun _ _ _ h => h) (Or.inl ⟨by rfl, ?_⟩) (by assumption) ?_; rotate_left; (intro w hSw; (try dsimp only at hSw); go_split_ands; go_simp; (try with_reducible rfl)); (try simp only [Act.put, List.setIfInBounds_toArray, List.set_cons_zero, List.set_cons_succ]))
            (refine WG.take (i := 7) (v := ?_) rfl (by kernel_rfl) (by kernel_rfl) (by kernel_rfl) (by kernel_rfl) (fun _ _ _ h => h) (Or.inl ⟨by rfl, ?_⟩) (by assumption) ?_; rotate_left; (intro w hSw; (try dsimp only at hSw); go_split_ands; go_simp; (try with_reducible rfl)); (try simp only [Act.put, List.setIfInBounds_toArray, List.set_cons_zero, List.set_cons_succ]))
            (refine WG.take (i := 8) (v := ?_) rfl (by kernel_rfl) (by kernel_rfl) (by kernel_rfl) (by kernel_rfl) (fun _ _ _ h => h) (Or.inl ⟨by rfl, ?_⟩) (by assumption) ?_; rotate_left; (intro w hSw; (try dsimp only at hSw); go_split_ands; go_simp; (try with_reducible rfl)); (try simp only [Act.put, List.setIfInBounds_toArray, List.set_cons_zero, List.set_cons_succ]))
            (refine WG.take (i := 9) (v := ?_) rfl (by kernel_rfl) (by kernel_rfl) (by kernel_rfl) (by kernel_rfl) (fun _ _ _ h => h) (Or.inl ⟨by rfl, ?_⟩) (by assumption) ?_; rotate_left; (intro w hSw; (try dsimp only at hSw); go_split_ands; go_simp; (try with_reducible rfl)); (try simp only [Act.put, List.setIfInBounds_toArray, List.set_cons_zero, List.set_cons_succ]))
            (refine WG.take (i := 10) rfl (by kernel_rfl) (by kernel_rfl) (by kernel_rfl) (by kernel_rfl) (fun _ _ _ h => h) (Or.inr ⟨?_, rfl⟩) (by assumption) ?_; go_simp; (try simp only [Act.put, List.setIfInBounds_toArray, List.set_cons_zero, List.set_cons_succ]))
            (refine WG.take (i := 11) rfl (by kernel_rfl) (by kernel_rfl) (by kernel_rfl) (by kernel_rfl) (fun _ _ _ h => h) (Or.inr ⟨?_, rfl⟩) (by assumption) ?_; go_simp; (try simp only [Act.put, List.setIfInBounds_toArray, List.set_cons_zero, List.set_cons_succ]))
            (refine WG.take (i := 12) rfl (by kernel_rfl) (by kernel_rfl) (by kernel_rfl) (by kernel_rfl) (fun _ _ _ h => h) (Or.inr ⟨?_, rfl⟩) (by assumption) ?_; go_simp; (try simp only [Act.put, List.setIfInBounds_toArray, List.set_cons_zero, List.set_cons_succ]))
            (refine WG.take (i := 13) rfl (by kernel_rfl) (by kernel_rfl) (by kernel_rfl) (by kernel_rfl) (fun _ _ _ h => h) (Or.inr ⟨?_, rfl⟩) (by assumption) ?_; go_simp; (try simp only [Act.put, List.setIfInBounds_toArray, List.set_cons_zero, List.set_cons_succ]))
            (refine WG.take (i := 14) rfl (by kernel_rfl) (by kernel_rfl) (by kernel_rfl) (by kernel_rfl) (fun _ _ _ h => h) (Or.inr ⟨?_, rfl⟩) (by assumption) ?_; go_simp; (try simp only [Act.put, List.setIfInBounds_toArray, List.set_cons_zero, List.set_cons_succ]))
            (refine WG.take (i := 15) rfl (by kernel_rfl) (by kernel_rfl) (by kernel_rfl) (by kernel_rfl) (fun _ _ _ h => h) (Or.inr ⟨?_, rfl⟩) (by assumption) ?_; go_simp; (try simp only [Act.put, List.setIfInBounds_toArray, List.set_cons_zero, List.set_cons_succ]))
            (refine WG.take (i := 16) rfl (by kernel_rfl) (by kernel_rfl) (by kernel_rfl) (by kernel_rfl) (fun _ _ _ h => h) (Or.inr ⟨?_, rfl⟩) (by assumption) ?_; go_simp; (try simp only [Act.put, List.setIfInBounds_toArray, List.set_cons_zero, List.set_cons_succ]))
            (refine WG.take (i := 17) (v := ?_) rfl (by kernel_rfl) (by kernel_rfl) (by kernel_rfl) (by kernel_rfl) (fun _ _ _ h => h) (Or.inl ⟨by rfl, ?_⟩) (by assumption) ?_; rotate_left; (intro w hSw; (try dsimp only at hSw); go_split_ands; go_simp; (try with_reducible rfl)); (try simp only [Act.put, List.setIfInBounds_toArray, List.set_cons_zero, List.set_cons_succ]))
            refine WG.last (i := 18) rfl (by kernel_rfl) (by kernel_rfl) (fun K hK => ?_)
            go_simp
            refine hK.out _ _ ?_
            clear hK K
            (try simp only [Act.put, List.setIfInBounds_toArray, List.set_cons_zero, List.set_cons_succ])
            refine WG.done (by kernel_rfl) ?_
            go_wp2
            go_roundw
            case rel => exact ⟨k + 1, k, by omega, by go_num, rfl, hid HSo.out.symm, hX⟩
            case measure => simp [intOf]; omega
          · obtain ⟨z1, hz1⟩ : ∃ z, z = leftN C x := ⟨_, rfl⟩
            obtain ⟨z2, hz2⟩ : ∃ z, z = leftN C v := ⟨_, rfl⟩
            have HZ1 := hid hz1
            have HZ2 := hid hz2
            have HSo : Hid (loosTo C (k + 1) = if z2 < z1 then (k : Int) else (j : Int)) := hid (by
              have e2 : C.units.getD (j : Int).toNat default = v := by simp [List.getD, hv]
              have hj0 : decide ((j : Int) < 0) = false := by simp
              rw [HS.out, ho, e9, e2, hj0, ← hz1, ← hz2]
              simp)
            have HJ := hid hv
            clear HS HIN hz1 hz2 hv hvo
            subst e9
            have KH : Hid (∀ w', Ext W w' → w'.cell? ⟨w.heap.size, 0, none⟩ = some (.slice Ar C.room.length cr) ∧ w'.cell? ⟨w.heap.size, 1, none⟩ = some (.slice (some ⟨b, o, none⟩) C.units.length cu) ∧ w'.cell? ⟨b, o + k * 2, none⟩ = some (.bool true) ∧ Ext W w') := hid fun w' hw => ⟨(KB.out _ hw).1, (KB.out _ hw).2, (HEW.out.trans hw).cell c1, hw⟩
            clear c1
            refine WG.start (fun w' => w'.cell? ⟨w.heap.size, 0, none⟩ = some (.slice Ar C.room.length cr) ∧ w'.cell? ⟨w.heap.size, 1, none⟩ = some (.slice (some ⟨b, o, none⟩) C.units.length cu) ∧ w'.cell? ⟨b, o + k * 2, none⟩ = some (.bool true) ∧ Ext W w') [16,17,18] (by kernel_rfl) (by exact KH.out _ (HE2.out.trans (Below.drew (Below.refl _ _)))) (fun hHeld => ?_)
            obtain ⟨pz, hpz⟩ : ∃ x, x = w2.drew := ⟨_, rfl⟩
            have hX : Ext W pz := by rw [hpz]; exact HE2.out.trans (Below.drew (Below.refl _ _))
            rw [← hpz] at hHeld ⊢
            clear hpz
            (refine WG.take (i := 0) (v := ?_) rfl (by kernel_rfl) (by kernel_rfl) (by kernel_rfl) (by kernel_rfl) (fun _ _ _ h => h) (Or.inl ⟨by rfl, ?_⟩) (by assumption) ?_; rotate_left; (intro w hSw; (try dsimp only at hSw); go_split_ands; go_simp; (try with_reducible rfl)); (try simp only [Act.put, List.setIfInBounds_toArray, List.set_cons_zero, List.set_cons_succ]))
            (refine WG.take (i := 1) (v := ?_) rfl (by kernel_rfl) (by kernel_rfl) (by kernel_rfl) (by kernel_rfl) (fun _ _ _ h => h) (Or.inl ⟨by rfl, ?_⟩) (by assumption) ?_; rotate_left; (intro w hSw; (try dsimp only at hSw); go_split_ands; go_simp; (try with_reducible rfl)); (try simp only [Act.put, List.setIfInBounds_toArray, List.set_cons_zero, List.set_cons_succ]))
            (refine WG.take (i := 2) (v := ?_) rfl (by kernel_rfl) (by kernel_rfl) (by kernel_rfl) (by kernel_rfl) (fun _ _ _ h => h) (Or.inl ⟨by rfl, ?_⟩) (by assumption) ?_; rotate_left; (intro w hSw; (try dsimp only at hSw); go_split_ands; go_simp; (try with_reducible rfl)); (try simp only [Act.put, List.setIfInBounds_toArray, List.set_cons_zero, List.set_cons_succ]))
            (refine WG.take (i := 3) (v := ?_) rfl (by kernel_rfl) (by kernel_rfl) (by kernel_rfl) (by kernel_rfl) (fun _ _ _ h => h) (Or.inl ⟨by rfl, ?_⟩) (by assumption) ?_; rotate_left; (intro w hSw; (try dsimp only at hSw); go_split_ands; go_simp; (try with_reducible rfl)); (try simp only [Act.put, List.setIfInBounds_toArray, List.set_cons_zero, List.set_cons_succ]))
            (refine WG.take (i := 4) (v := ?_) rfl (by kernel_rfl) (by kernel_rfl) (by kernel_rfl) (by kernel_rfl) (fun _ _ _ h => h) (Or.inl ⟨by rfl, ?_⟩) (by assumption) ?_; rotate_left; (intro w hSw; (try dsimp only at hSw); go_split_ands; go_simp; (try with_reducible rfl)); (try simp only [Act.put, List.setIfInBounds_toArray, List.set_cons_zero, List.set_cons_succ]))
            (refine WG.take (i := 5) (v := ?_) rfl (by kernel_rfl) (by kernel_rfl) (by kernel_rfl) (by kernel_rfl) (fun _ _ _ h => h) (Or.inl ⟨by rfl, ?_⟩) (by assumption) ?_; rotate_left; (intro w hSw; (try dsimp only at hSw); go_split_ands; go_simp; (try with_reducible rfl)); (try simp only [Act.put, List.setIfInBounds_toArray, List.set_cons_zero, List.set_cons_succ]))
            (refine WG.take (i := 6) (v := ?_) rfl (by kernel_rfl) (by kernel_rfl) (by kernel_rfl) (by kernel_rfl) (fun _ _ _ h => h) (Or.inl ⟨by rfl, ?_⟩) (by assumption) ?_; rotate_left; (intro w hSw; (try dsimp only at hSw); go_split_ands; go_simp; (try with_reducible rfl)); (try simp only [Act.put, List.setIfInBounds_toArray, List.set_cons_zero, List.set_cons_succ]))
            (refine WG.take (i := 7) (v := ?_) rfl (by kernel_rfl) (by kernel_rfl) (by kernel_rfl) (by kernel_rfl) (fun _ _ _ h => h) (Or.inl ⟨by rfl, ?_⟩) (by assumption) ?_; rotate_left; (intro w hSw; (try dsimp only at hSw); go_split_ands; go_simp; (try with_reducible rfl)); (try simp only [Act.put, List.setIfInBounds_toArray, List.set_cons_zero, List.set_cons_succ]))
            (refine WG.take (i := 8) (v := ?_) rfl (by kernel_rfl) (by kernel_rfl) (by kernel_rfl) (by kernel_rfl) (fun _ _ _ h => h) (Or.inl ⟨by rfl, ?_⟩) (by assumption) ?_; rotate_left; (intro w hSw; (try dsimp only at hSw); go_split_ands; go_simp; (try with_reducible rfl)); (try simp only [Act.put, List.setIfInBounds_toArray, List.set_cons_zero, List.set_cons_succ]))
            (refine WG.take (i := 9) (v := ?_) rfl (by kernel_rfl) (by kernel_rfl) (by kernel_rfl) (by kernel_rfl) (fun _ _ _ h => h) (Or.inl ⟨by rfl, ?_⟩) (by assumption) ?_; rotate_left; (intro w hSw; (try dsimp only at hSw); go_split_ands; go_simp; (try with_reducible rfl)); (try simp only [Act.put, List.setIfInBounds_toArray, List.set_cons_zero, List.set_cons_succ]))
            (refine WG.take (i := 10) (v := ?_) rfl (by kernel_rfl) (by kernel_rfl) (by kernel_rfl) (by kernel_rfl) (fun _ _ _ h => h) (Or.inl ⟨by rfl, ?_⟩) (by assumption) ?_; rotate_left; (intro w hSw; (try dsimp only at hSw); go_split_ands; go_simp; (try with_reducible rfl)); (try simp only [Act.put, List.setIfInBounds_toArray, List.set_cons_zero, List.set_cons_succ]))
            (refine WG.take (i := 11) (v := ?_) rfl (by kernel_rfl) (by kernel_rfl) (by kernel_rfl) (by kernel_rfl) (fun _ _ _ h => h) (Or.inl ⟨by rfl, ?_⟩) (by assumption) ?_; rotate_left; (intro w hSw; (try dsimp only at hSw); go_split_ands; go_simp; (try with_reducible rfl)); (try simp only [Act.put, List.setIfInBounds_toArray, List.set_cons_zero, List.set_cons_succ]))
            (refine WG.take (i := 13) (v := ?_) rfl (by kernel_rfl) (by kernel_rfl) (by kernel_rfl) (by kernel_rfl) (fun _ _ _ h => h) (Or.inl ⟨by rfl, ?_⟩) (by assumption) ?_; rotate_left; (intro w hSw; (try dsimp only at hSw); go_split_ands; go_simp; (try with_reducible rfl)); (try simp only [Act.put, List.setIfInBounds_toArray, List.set_cons_zero, List.set_cons_succ]))
            (refine WG.take (i := 14) (v := ?_) rfl (by kernel_rfl) (by kernel_rfl) (by kernel_rfl) (by kernel_rfl) (fun _ _ _ h => h) (Or.inl ⟨by rfl, ?_⟩) (by assumption) ?_; rotate_left; (intro w hSw; (try dsimp only at hSw); go_split_ands; go_simp; (try with_reducible rfl)); (try simp only [Act.put, List.setIfInBounds_toArray, List.set_cons_zero, List.set_cons_succ]))
            refine WG.one (i := 12) rfl (by kernel_rfl) (fun K hK => ?_)
            go_simp
            refine (sL33 _ C k x _ (HH.out.ext (HEW.out.trans hX)) HV.out e.out).mono ?_
            rw [← HZ1.out]
            rintro e p1 ⟨rfl, hE⟩
            (try dsimp only)
            replace hX := hX.trans hE
            refine hK.out _ _ (by exact KH.out _ hX) (fun hHeld => ?_)
            clear hK K hE
            (try simp only [Act.put, List.setIfInBounds_toArray, List.set_cons_zero, List.set_cons_succ])
            refine WG.one (i := 15) rfl (by kernel_rfl) (fun K hK => ?_)
            go_simp
            refine (sL33 _ C j v _ (HH.out.ext (HEW.out.trans hX)) HV.out HJ.out).mono ?_
            rw [← HZ2.out]
            rintro e p2 ⟨rfl, hE⟩
            (try dsimp only)
            replace hX := hX.trans hE
            refine hK.out _ _ (by exact KH.out _ hX) (fun hHeld => ?_)
            clear hK K hE
            (try simp only [Act.put, List.setIfInBounds_toArray, List.set_cons_zero, List.set_cons_succ])
            by_cases hzz : z2 < z1
            · have hzd : decide (z2 < z1) = true := by simpa using hzz
              have hS2 : Hid (loosTo C (k + 1) = k) := hid (by rw [HSo.out, if_pos hzz])
              clear HSo
              refine WG.last (i := 16) rfl (by kernel_rfl) (by kernel_rfl) (fun K hK => ?_)
              go_simp
              refine hK.out _ _ ?_
              clear hK K
              (try simp only [Act.put, List.setIfInBounds_toArray, List.set_cons_zero, List.set_cons_succ])
              refine WG.last (i := 17) rfl (by kernel_rfl) (by kernel_rfl) (fun K hK => ?_)
              go_simp
              refine hK.out _ _ ?_
              clear hK K
              (try simp only [Act.put, List.setIfInBounds_toArray, List.set_cons_zero, List.set_cons_succ])
              refine WG.last (i := 18) rfl (by kernel_rfl) (by kernel_rfl) (fun K hK => ?_)
              go_simp
              refine hK.out _ _ ?_
              clear hK K
              (try simp only [Act.put, List.setIfInBounds_toArray, List.set_cons_zero, List.set_cons_succ])
              refine WG.done (by kernel_rfl) ?_
              go_wp2
              go_roundw
              case rel => exact ⟨k + 1, k, by omega, by go_num, rfl, hid hS2.out.symm, hX⟩
              case measure => simp [intOf]; omega
            · have hzd : decide (z2 < z1) = false := by simpa using hzz
              have hS2 : Hid (loosTo C (k + 1) = j) := hid (by rw [HSo.out, if_neg hzz])
              clear HSo
              refine WG.last (i := 16) rfl (by kernel_rfl) (by kernel_rfl) (fun K hK => ?_)
              go_simp
              refine hK.out _ _ ?_
              clear hK K
              (try simp only [Act.put, List.setIfInBounds_toArray, List.set_cons_zero, List.set_cons_succ])
              refine WG.last (i := 17) rfl (by kernel_rfl) (by kernel_rfl) (fun K hK => ?_)
              go_simp
              refine hK.out _ _ ?_
              clear hK K
              (try simp only [Act.put, List.setIfInBounds_toArray, List.set_cons_zero, List.set_cons_succ])
              refine WG.last (i := 18) rfl (by kernel_rfl) (by kernel_rfl) (fun K hK => ?_)
              go_simp
              refine hK.out _ _ ?_
              clear hK K
              (try simp only [Act.put, List.setIfInBounds_toArray, List.set_cons_zero, List.set_cons_succ])
              refine WG.done (by kernel_rfl) ?_
              go_wp2
              go_roundw
              case rel => exact ⟨k + 1, j, by omega, by go_num, rfl, hid hS2.out.symm, hX⟩
              case measure => simp [intOf]; omega
      · have hge : ¬ (k : Int) < (C.units.length : Int) := by omega
        have hzz := hid hk
        clear hg
        go_wp2
        go_ret
        have hk' : k = C.units.length := by have := hzz.out; omega
        exact ⟨ret_i (by rw [H.out, hk']; unfold loosN; rw [if_pos HV.out]), HEW.out.trans HE.out⟩
end Go.Proofs.Ytcfpilkhjpegcaa

/- The reference's share. -/
namespace Go.Proofs.Ytcfpilkhjpegcaa
open Go.RowKit
set_option maxRecDepth 4000

set_option maxHeartbeats 2000000 in
theorem sUsageShare (cv : Value) (C : ClusD) (dim : Int) (w : World) (h : ClusV w cv C) (hl : C.units.length ≤ 4000000) (hfl : (C.units.map (·.tasks)).flatten.length ≤ 4000000) :
    Calls Try.prog 11 #[cv, .int .i64 dim] w (RetN w (shareN C dim)) := by
  have HH := hid h
  obtain ⟨rv, uv, rfl, hr, hu⟩ := h
  have hr0 := hr
  obtain ⟨Ar, cr, rfl, q1⟩ := hr
  obtain ⟨Au, cu, rfl, q2⟩ := hu
  clear q1 q2
  have HR := hid hr0
  obtain ⟨W, hW⟩ : ∃ W, W = w.alloc (.cells #[.slice Ar C.room.length cr, .slice Au C.units.length cu] 26) := ⟨_, rfl⟩
  have hEW : Ext w W := by rw [hW]; exact Ext.alloc _ _
  have KB : Hid (∀ w', Ext W w' → w'.cell? ⟨w.heap.size, 0, none⟩ = some (.slice Ar C.room.length cr) ∧ w'.cell? ⟨w.heap.size, 1, none⟩ = some (.slice Au C.units.length cu)) :=
    hid fun w' hw => ⟨hw.cell (by rw [hW]; exact cell_new _ _ _ 0), hw.cell (by rw [hW]; exact cell_new _ _ _ 1)⟩
  have HEW := hid hEW
  clear hEW hr0
  obtain ⟨hb0, hb1⟩ := KB.out _ (Ext.refl _)
  go_enter Try.func11, Try.ntmps11
  cases hv : clusOk C with
  | false =>
    have HV := hid hv
    clear hv
    go_wp2_with (go_at_call 37; rw [← hW]; refine (sClusterValid _ C _ (HH.out.ext HEW.out) hl hfl).mono ?_; rintro e w1 ⟨rfl, hE1⟩; rw [HV.out]; have HE1 := hid hE1; clear hE1 hW)
    go_ret
    exact ⟨ret_i (by unfold shareN; rw [HV.out]; rfl), HEW.out.trans HE1.out⟩
  | true =>
  have HV := hid hv
  clear hv
  cases hi : inB dim 0 2 with
  | false =>
    have HI := hid hi
    clear hi
    go_wp2_with (first
      | (go_at_call 37; rw [← hW]; refine (sClusterValid _ C _ (HH.out.ext HEW.out) hl hfl).mono ?_; rintro e w1 ⟨rfl, hE1⟩; rw [HV.out]; have HE1 := hid hE1; clear hE1 hW)
      | (go_at_call 38; refine (sIn _ _ _ _).mono ?_; rintro e w2 ⟨rfl, nd, rfl⟩; rw [HI.out]; have HE2 : Hid (Ext W (w1.drewN nd)) := hid (HE1.out.trans (Ext.drewN _ _))))
    go_ret
    exact ⟨ret_i (by unfold shareN; rw [HV.out, HI.out]; rfl), HEW.out.trans HE2.out⟩
  | true =>
  have HI := hid hi
  obtain ⟨d, rfl⟩ : ∃ d : Nat, dim = d := ⟨dim.toNat, by simp [inB] at hi; omega⟩
  have hd : d < 3 := by simp [inB] at hi; omega
  clear hi
  obtain ⟨n, hn⟩ : ∃ n, n = openN C := ⟨_, rfl⟩
  have HN := hid hn
  have HD := hid hd
  clear hn hd
  by_cases hn0 : n = 0
  · have hn1 : ((n : Int) == 0) = true := by simp [hn0]
    have hn0 := hid hn0
    go_wp2_with (first
      | (go_at_call 37; rw [← hW]; refine (sClusterValid _ C _ (HH.out.ext HEW.out) hl hfl).mono ?_; rintro e w1 ⟨rfl, hE1⟩; rw [HV.out]; have HE1 := hid hE1; clear hE1 hW)
      | (go_at_call 38; refine (sIn _ _ _ _).mono ?_; rintro e w2 ⟨rfl, nd, rfl⟩; rw [HI.out]; have HE2 : Hid (Ext W (w1.drewN nd)) := hid (HE1.out.trans (Ext.drewN _ _)); clear hb0 hb1; obtain ⟨hb0, hb1⟩ := KB.out _ HE2.out)
      | (go_at_call 39; refine (sOpen _ C _ (HH.out.ext (HEW.out.trans HE2.out)) hl).mono ?_; rw [← HN.out]; rintro e w3 ⟨rfl, hE3⟩; have HE3 := hid (HE2.out.trans hE3); clear hE3))
    go_ret
    exact ⟨ret_i (by unfold shareN; rw [HV.out, HI.out, if_pos (by rfl : (true && true) = true), if_pos (by rw [← HN.out]; exact hn0.out : openN C = 0)]), HEW.out.trans HE3.out⟩
  have hn1 : ((n : Int) == 0) = false := by simp; omega
  have hn0 := hid hn0
  obtain ⟨A', c', hA, q1, q2, hg⟩ := RI.get HR.out
  obtain ⟨rb, ro, rd, rfl, erd, crd⟩ := hg d (by rw [vecOk_len (roomOk_vec (clusOk_room HV.out))]; exact HD.out)
  injection hA with hA1 hA2 hA3
  subst hA1
  clear hA2 hA3 q1 q2 hg
  have hrd : rd = C.room.getD d 0 := by rw [List.getD_eq_getElem?_getD, erd.out]; rfl
  obtain ⟨u, hu⟩ : ∃ u, u = (usageL C).getD d 0 := ⟨_, rfl⟩
  have hul := usageL_len C
  have hd := HD.out
  have HU : Hid ((usageL C)[d]? = some u) := hid (by rw [hu, List.getD_eq_getElem?_getD, List.getElem?_eq_getElem (by omega)]; rfl)
  have hub := usage_bd HV.out HD.out
  have hab := all_bd HV.out HD.out
  have hno : openN C ≠ 0 := by rw [← HN.out]; exact hn0.out
  have hpos := hab.2.2 hno
  have hm2e : (n : Int) * rd = (openN C : Int) * C.room.getD d 0 := by rw [hrd, HN.out]
  have hq : (100 * u).tdiv ((n : Int) * rd) = (100 * u) / ((n : Int) * rd) := Int.tdiv_eq_ediv_of_nonneg (by omega)
  have hq0 : 0 ≤ (100 * u) / ((n : Int) * rd) := Int.ediv_nonneg (by omega) (by omega)
  have hq1 : (100 * u) / ((n : Int) * rd) ≤ 100 * u := Int.ediv_le_self _ (by omega)
  have hm0 : ¬ (n : Int) * rd = 0 := by omega
  obtain ⟨m2, hm2⟩ : ∃ m2, m2 = (n : Int) * rd := ⟨_, rfl⟩
  obtain ⟨q, hqq⟩ : ∃ q, q = (100 * u).tdiv m2 := ⟨_, rfl⟩
  have hw1 : IntKind.i64.wrap (100 * u) = 100 * u := IntWalk.i64_in _ (by omega)
  have hw2 : IntKind.i64.wrap ((n : Int) * rd) = m2 := by rw [hm2]; exact IntWalk.i64_in _ (by omega)
  have hw3 : IntKind.i64.wrap ((100 * u).tdiv m2) = q := by rw [hqq, hm2]; exact IntWalk.i64_in _ (by omega)
  have hmz : ¬ m2 = 0 := by rw [hm2]; exact hm0
  have HQ : Hid (shareN C d = q) := hid (by rw [share_eq HV.out HD.out hno, ← hu, ← hm2e, ← hq, ← hm2, ← hqq])
  have hr3 : C.room.length = 3 := vecOk_len (roomOk_vec (clusOk_room HV.out))
  have i1 : (d : Int) < (C.room.length : Int) := by omega
  have i2 : (d : Int) < 3 := by omega
  have HG := hid (tasksOk_good (binsOk_tk (clusOk_bins HV.out)))
  have HCR := hid crd
  have HUL := hid hul
  clear hrd hu hul hub hab hno hpos hm2e hq hq0 hq1 hm0 hm2 hqq hr3 crd hd
  go_upto_region 6 with (first
    | (go_at_call 37; rw [← hW]; refine (sClusterValid _ C _ (HH.out.ext HEW.out) hl hfl).mono ?_; rintro e w1 ⟨rfl, hE1⟩; rw [HV.out]; have HE1 := hid hE1; clear hE1 hW)
    | (go_at_call 38; refine (sIn _ _ _ _).mono ?_; rintro e w2 ⟨rfl, nd, rfl⟩; rw [HI.out]; have HE2 : Hid (Ext W (w1.drewN nd)) := hid (HE1.out.trans (Ext.drewN _ _)); clear hb0 hb1; obtain ⟨hb0, hb1⟩ := KB.out _ HE2.out)
    | (go_at_call 39; refine (sOpen _ C _ (HH.out.ext (HEW.out.trans HE2.out)) hl).mono ?_; rw [← HN.out]; rintro e w3 ⟨rfl, hE3⟩; have HE3 := hid (HE2.out.trans hE3); clear hE3))
  clear hb0 hb1 hn1
  have KH : Hid (∀ w', Ext W w' → w'.cell? ⟨w.heap.size, 0, none⟩ = some (.slice (some ⟨rb, ro, none⟩) C.room.length cr) ∧ w'.cell? ⟨w.heap.size, 1, none⟩ = some (.slice Au C.units.length cu) ∧ w'.cell? ⟨rb, ro + d, none⟩ = some (.int .i64 rd) ∧ Ext W w') := hid fun w' hw => ⟨(KB.out _ hw).1, (KB.out _ hw).2, (HEW.out.trans hw).cell HCR.out, hw⟩
  refine WG.start (fun w' => w'.cell? ⟨w.heap.size, 0, none⟩ = some (.slice (some ⟨rb, ro, none⟩) C.room.length cr) ∧ w'.cell? ⟨w.heap.size, 1, none⟩ = some (.slice Au C.units.length cu) ∧ w'.cell? ⟨rb, ro + d, none⟩ = some (.int .i64 rd) ∧ Ext W w') [15,16] (by kernel_rfl) (by exact KH.out _ (HE3.out.trans (Below.drew (Below.refl _ _)))) (fun hHeld => ?_)
  obtain ⟨pz, hpz⟩ : ∃ x, x = w3.drew := ⟨_, rfl⟩
  have hX : Ext W pz := by rw [hpz]; exact HE3.out.trans (Below.drew (Below.refl _ _))
  rw [← hpz] at hHeld ⊢
  clear hpz
  (refine WG.take (i := 0) (v := ?_) rfl (by kernel_rfl) (by kernel_rfl) (by kernel_rfl) (by kernel_rfl) (fun _ _ _ h => h) (Or.inl ⟨by rfl, ?_⟩) (by assumption) ?_; rotate_left; (intro w hSw; (try dsimp only at hSw); go_split_ands; go_simp; (try with_reducible rfl)); (try simp only [Act.put, List.setIfInBounds_toArray, List.set_cons_zero, List.set_cons_succ]))
  (refine WG.take (i := 4) (v := ?_) rfl (by kernel_rfl) (by kernel_rfl) (by kernel_rfl) (by kernel_rfl) (fun _ _ _ h => h) (Or.inl ⟨by rfl, ?_⟩) (by assumption) ?_; rotate_left; (intro w hSw; (try dsimp only at hSw); go_split_ands; go_simp; (try with_reducible rfl)); (try simp only [Act.put, List.setIfInBounds_toArray, List.set_cons_zero, List.set_cons_succ]))
  (refine WG.take (i := 8) (v := ?_) rfl (by kernel_rfl) (by kernel_rfl) (by kernel_rfl) (by kernel_rfl) (fun _ _ _ h => h) (Or.inl ⟨by rfl, ?_⟩) (by assumption) ?_; rotate_left; (intro w hSw; (try dsimp only at hSw); go_split_ands; go_simp; (try with_reducible rfl)); (try simp only [Act.put, List.setIfInBounds_toArray, List.set_cons_zero, List.set_cons_succ]))
  (refine WG.take (i := 9) (v := ?_) rfl (by kernel_rfl) (by kernel_rfl) (by kernel_rfl) (by kernel_rfl) (fun _ _ _ h => h) (Or.inl ⟨by rfl, ?_⟩) (by assumption) ?_; rotate_left; (intro w hSw; (try dsimp only at hSw); go_split_ands; go_simp; (try with_reducible rfl)); (try simp only [Act.put, List.setIfInBounds_toArray, List.set_cons_zero, List.set_cons_succ]))
  (refine WG.take (i := 10) (v := ?_) rfl (by kernel_rfl) (by kernel_rfl) (by kernel_rfl) (by kernel_rfl) (fun _ _ _ h => h) (Or.inl ⟨by rfl, ?_⟩) (by assumption) ?_; rotate_left; (intro w hSw; (try dsimp only at hSw); go_split_ands; go_simp; (try with_reducible rfl)); (try simp only [Act.put, List.setIfInBounds_toArray, List.set_cons_zero, List.set_cons_succ]))
  (refine WG.take (i := 11) (v := ?_) rfl (by kernel_rfl) (by kernel_rfl) (by kernel_rfl) (by kernel_rfl) (fun _ _ _ h => h) (Or.inl ⟨by rfl, ?_⟩) (by assumption) ?_; rotate_left; (intro w hSw; (try dsimp only at hSw); go_split_ands; go_simp; (try with_reducible rfl)); (try simp only [Act.put, List.setIfInBounds_toArray, List.set_cons_zero, List.set_cons_succ]))
  (refine WG.take (i := 12) (v := ?_) rfl (by kernel_rfl) (by kernel_rfl) (by kernel_rfl) (by kernel_rfl) (fun _ _ _ h => h) (Or.inl ⟨by rfl, ?_⟩) (by assumption) ?_; rotate_left; (intro w hSw; (try dsimp only at hSw); go_split_ands; go_simp; (try with_reducible rfl)); (try simp only [Act.put, List.setIfInBounds_toArray, List.set_cons_zero, List.set_cons_succ]))
  (refine WG.take (i := 13) (v := ?_) rfl (by kernel_rfl) (by kernel_rfl) (by kernel_rfl) (by kernel_rfl) (fun _ _ _ h => h) (Or.inl ⟨by rfl, ?_⟩) (by assumption) ?_; rotate_left; (intro w hSw; (try dsimp only at hSw); go_split_ands; go_simp; (try with_reducible rfl)); (try simp only [Act.put, List.setIfInBounds_toArray, List.set_cons_zero, List.set_cons_succ]))
  (refine WG.take (i := 14) (v := ?_) rfl (by kernel_rfl) (by kernel_rfl) (by kernel_rfl) (by kernel_rfl) (fun _ _ _ h => h) (Or.inl ⟨by rfl, ?_⟩) (by assumption) ?_; rotate_left; (intro w hSw; (try dsimp only at hSw); go_split_ands; go_simp; (try with_reducible rfl)); (try simp only [Act.put, List.setIfInBounds_toArray, List.set_cons_zero, List.set_cons_succ]))
  refine WG.one (i := 1) rfl (by kernel_rfl) (fun K hK => ?_)
  go_simp
  refine (sBins21 _ C _ (HH.out.ext (HEW.out.trans hX)) hl).mono ?_
  rintro e p1 ⟨v1, rfl, hO1, hE⟩
  have HO1 := hid hO1.read
  clear hO1
  (try dsimp only)
  replace hX := hX.trans hE
  refine hK.out _ _ (by exact KH.out _ hX) (fun hHeld => ?_)
  clear hK K hE
  (try simp only [Act.put, List.setIfInBounds_toArray, List.set_cons_zero, List.set_cons_succ])
  refine WG.one (i := 2) rfl (by kernel_rfl) (fun K hK => ?_)
  go_simp
  refine (sAll _ _ _ HO1.out hfl).mono ?_
  rintro e p2 ⟨v2, rfl, hO2, hE⟩
  have HO2 := hid hO2.read
  clear hO2
  (try dsimp only)
  replace hX := hX.trans hE
  refine hK.out _ _ (by exact KH.out _ hX) (fun hHeld => ?_)
  clear hK K hE
  (try simp only [Act.put, List.setIfInBounds_toArray, List.set_cons_zero, List.set_cons_succ])
  refine WG.one (i := 3) rfl (by kernel_rfl) (fun K hK => ?_)
  go_simp
  refine (sLoad _ _ _ HO2.out HG.out).mono ?_
  rintro e p3 ⟨v3, rfl, hO3, hE⟩
  have hU3 : RI p3 v3 (usageL C) := hO3
  obtain ⟨A3, c3, rfl, q1, q2, hg3⟩ := RI.get hU3
  obtain ⟨g, go, u', rfl, eu', cu'⟩ := hg3 d (by rw [HUL.out]; exact HD.out)
  obtain rfl : u' = u := by have := eu'.out; rw [HU.out] at this; injection this with this; exact this.symm
  rw [HUL.out]
  clear q1 q2 hg3 hU3 hO3 eu'
  (try dsimp only)
  replace hX := hX.trans hE
  refine hK.out _ _ (by exact KH.out _ hX) (fun hHeld => ?_)
  clear hK K hE
  (try simp only [Act.put, List.setIfInBounds_toArray, List.set_cons_zero, List.set_cons_succ])
  refine WG.strong (fun w' => (w'.cell? ⟨w.heap.size, 0, none⟩ = some (.slice (some ⟨rb, ro, none⟩) C.room.length cr) ∧ w'.cell? ⟨w.heap.size, 1, none⟩ = some (.slice Au C.units.length cu) ∧ w'.cell? ⟨rb, ro + d, none⟩ = some (.int .i64 rd) ∧ Ext W w') ∧ w'.cell? ⟨g, go + d, none⟩ = some (.int .i64 u')) (fun w' h => h.1) (And.intro (KH.out _ hX) cu') (fun hHeld => ?_)
  (refine WG.take (i := 5) (v := ?_) rfl (by kernel_rfl) (by kernel_rfl) (by kernel_rfl) (by kernel_rfl) (fun _ _ _ h => h) (Or.inl ⟨by rfl, ?_⟩) (by assumption) ?_; rotate_left; (intro w hSw; (try dsimp only at hSw); go_split_ands; go_simp; (try with_reducible rfl)); (try simp only [Act.put, List.setIfInBounds_toArray, List.set_cons_zero, List.set_cons_succ]))
  (refine WG.take (i := 6) (v := ?_) rfl (by kernel_rfl) (by kernel_rfl) (by kernel_rfl) (by kernel_rfl) (fun _ _ _ h => h) (Or.inl ⟨by rfl, ?_⟩) (by assumption) ?_; rotate_left; (intro w hSw; (try dsimp only at hSw); go_split_ands; go_simp; (try with_reducible rfl)); (try simp only [Act.put, List.setIfInBounds_toArray, List.set_cons_zero, List.set_cons_succ]))
  (refine WG.take (i := 7) (v := ?_) rfl (by kernel_rfl) (by kernel_rfl) (by kernel_rfl) (by kernel_rfl) (fun _ _ _ h => h) (Or.inl ⟨by rfl, ?_⟩) (by assumption) ?_; rotate_left; (intro w hSw; (try dsimp only at hSw); go_split_ands; go_simp; (try with_reducible rfl)); (try simp only [Act.put, List.setIfInBounds_toArray, List.set_cons_zero, List.set_cons_succ]))
  refine WG.last (i := 15) rfl (by kernel_rfl) (by kernel_rfl) (fun K hK => ?_)
  go_simp
  refine hK.out _ _ ?_
  clear hK K
  (try simp only [Act.put, List.setIfInBounds_toArray, List.set_cons_zero, List.set_cons_succ])
  refine WG.last (i := 16) rfl (by kernel_rfl) (by kernel_rfl) (fun K hK => ?_)
  go_simp
  refine hK.out _ _ ?_
  clear hK K
  (try simp only [Act.put, List.setIfInBounds_toArray, List.set_cons_zero, List.set_cons_succ])
  refine WG.done (by kernel_rfl) ?_
  go_wp2
  go_ret
  exact ⟨ret_i HQ.out.symm, HEW.out.trans hX⟩
end Go.Proofs.Ytcfpilkhjpegcaa
