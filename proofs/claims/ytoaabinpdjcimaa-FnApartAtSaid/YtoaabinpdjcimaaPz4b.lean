/- The law FnApartAt. (Printed by genpz.py.) -/
import Derived.Test.YtoaabinpdjcimaaK28
import Derived.Test.YtoaabinpdjcimaaK29
import Derived.Test.YtoaabinpdjcimaaK23
namespace Go.Proofs.Ytoaabinpdjcimaa
open Go.RowKit
set_option maxRecDepth 4000

set_option maxHeartbeats 8000000 in
theorem lawApartAt (v : Value) (bs : List Int) (w : World) (h : XBy w v bs) :
    Calls Try.prog 6 #[v] w (RetB w true) := by
  have HB := hid h
  obtain ⟨A, c, rfl, _⟩ := h
  by_cases h1 : bs.length ≤ 1048576
  · have i1 : ¬ (1048576 : Int) < (bs.length : Int) := by omega
    go_enter Try.func6, Try.ntmps6
    go_wp2_with (go_at_call 15; refine (dDrawApartAt _ bs _ HB.out (by omega)).mono ?_; rintro e w0 ⟨rv, nv, pv, tv, room, Bs, ps, x, rfl, hr, hb, hp, hn, hbl, hfl, hg, hpl, hgx, hE0⟩; have hr0 := hr; have hb0 := hb; have hp0 := hp; have hn0 := hn; obtain ⟨Ar, cr, rfl, _⟩ := hr; obtain ⟨Ab, cb, rfl⟩ := bin_row hb; obtain ⟨Ap, cp, rfl, _⟩ := hp; obtain ⟨An, cn, rfl, _⟩ := hn; have hX := Ext.alloc w0 (.cells #[.int .i64 x.id, .slice An x.need.length cn] 34); have HR := hid (RI.ext hr0 hX); have HN := hid (RB.ext hb0 hX); have HP := hid (RP.ext hp0 hX); have HXR := hid (RI.ext hn0 hX); have HBL := hid hbl; have hfl2 := hid hfl; have HFL : Hid (Bs.flatten.length ≤ 3000000) := hid (by omega); have HGX := hid hgx; have HPL := hid hpl; have HID : Hid (∀ t ∈ Bs.flatten ++ [x], IdR t.id) := hid (fun t ht => by rcases List.mem_append.1 ht with ht | ht; exact (hg t ht).2.2; rw [List.mem_singleton.1 ht]; exact hgx.2.2); have HE0 := hid (hE0.trans hX); have X0 := hid (heap_alloc_new w0 (.cells #[.int .i64 x.id, .slice An x.need.length cn] 34)); obtain ⟨y0, y1, y0f, y1f, k1, k1f, hkk, _⟩ := box2 (heap_alloc_new w0 (.cells #[.int .i64 0, .slice none 0 0] 34)) (.int .i64 x.id) (.slice An x.need.length cn); clear hr0 hb0 hp0 hn0 hkk hbl hfl hg hgx hpl hE0 hX)
    obtain ⟨w1, hw1⟩ : ∃ w1, w1 = w0.alloc (.cells #[.int .i64 x.id, .slice An x.need.length cn] 34) := ⟨_, rfl⟩
    rw [← hw1] at HR HN HP HXR HE0 X0 ⊢
    obtain ⟨H0, hH0⟩ : ∃ H, H = w0.heap.size := ⟨_, rfl⟩
    rw [← hH0] at X0 ⊢
    clear hw1 hH0 y0 y1 y0f y1f k1 k1f
    have KB : Hid (∀ w', Ext w1 w' → w'.cell? ⟨H0, 0, none⟩ = some (.int .i64 x.id) ∧ w'.cell? ⟨H0, 1, none⟩ = some (.slice An x.need.length cn)) := hid fun w' hw => ⟨obj_cell (hw.obj X0.out) (i := 0) rfl, obj_cell (hw.obj X0.out) (i := 1) rfl⟩
    obtain ⟨q0, q1⟩ := KB.out _ (Ext.refl _)
    have HTV : Hid (TaskV w1 (.agg #[.int .i64 x.id, .slice An x.need.length cn]) x) := hid ⟨_, rfl, HXR.out⟩
    have TK0 : Hid True := hid trivial
    obtain ⟨Z, hZ⟩ : ∃ Z, Z = apartAtN room Bs ps x := ⟨_, rfl⟩
    have HZ := hid hZ
    have hzz : (Z != Z) = false := by simp
    by_cases hneg : Z < 0
    · clear hZ
      go_wp2_with (first
        | (go_at_call 16; clear TK0; refine (iApartAt _ _ _ _ room Bs ps x _ HR.out HN.out HP.out HTV.out HFL.out HID.out).mono ?_; rw [← HZ.out]; rintro e w2 ⟨rfl, hE2⟩; obtain ⟨q0, q1⟩ := KB.out _ hE2; have HE2 := hid hE2; clear hE2; have TK1 : Hid True := hid trivial)
        | (go_at_call 17; clear TK1; refine (sApartAt _ _ _ _ room Bs ps x _ (RI.ext HR.out HE2.out) (RB.ext HN.out HE2.out) (RP.ext HP.out HE2.out) (HTV.out.ext HE2.out) HFL.out).mono ?_; rw [← HZ.out]; rintro e w3 ⟨rfl, hE3⟩; have HE23 := hid hE3; have HE3 := hid (HE2.out.trans hE3); clear hE3; have TK2 : Hid True := hid trivial))
      go_ret
      exact ⟨by simp, HE0.out.trans HE3.out⟩
    · have hok : canComeL room Bs x = true ∧ pairsOk ps = true := by
        unfold apartAtN at hZ
        split at hZ
        · rename_i hc; simpa using hc
        · omega
      have hZ2 : Z = apartAt room Bs ps x := by rw [hZ]; unfold apartAtN; rw [hok.1, hok.2]; rfl
      obtain ⟨k, d, hk, hd, hfit, hfree⟩ := apartAt_some (room := room) (bs := Bs) (ps := ps) (x := x) (by omega)
      obtain ⟨T, hT⟩ : ∃ T, T = brokenN room [d ++ [x]] ps := ⟨_, rfl⟩
      have HT := hid hT
      have HUB : Hid (∀ z ∈ T, ∃ (i : Nat), i < ps.length ∧ z = (i : Int) ∧ (ps.getD i default).a ≠ x.id ∧ (ps.getD i default).b ≠ x.id) := hid (fun z hz => one_unbroken hok.2 hfree (by rw [← hT]; exact hz))
      have HOK1 : Hid (binsOk room [d ++ [x]] = true) := hid (come_one hok.1 hd hfit)
      obtain ⟨Y, hY⟩ : ∃ Y, Y = firstAtN room Bs x := ⟨_, rfl⟩
      have hYle : Y ≤ (k : Int) := by rw [hY, ← hk, ← hZ2, hZ]; exact ((apartAt_none (ps := ps)).2 (by rw [← hZ]; omega)).2
      have HFA : Hid (firstAtN room Bs x = Y) := hid hY.symm
      have hsub : (d ++ [x]).Sublist (Bs.flatten ++ [x]) := (List.sublist_flatten_of_mem (List.mem_of_getElem? hd)).append (List.Sublist.refl _)
      have HFD : Hid ([d ++ [x]].flatten.length ≤ 3000000) := hid (by have h1 := (List.sublist_flatten_of_mem (List.mem_of_getElem? hd)).length_le; have h2 := hfl2.out; simp; omega)
      have HID1 : Hid (∀ t ∈ [d ++ [x]].flatten, IdR t.id) := hid (fun t ht => HID.out t (hsub.mem (by simpa using ht)))
      have HBND : Hid (d.length ≤ 2000000) := hid (by have h1 := (List.sublist_flatten_of_mem (List.mem_of_getElem? hd)).length_le; have h2 := hfl2.out; omega)
      have hzk : Z = (k : Int) := by rw [hZ2, hk]
      have hkl : k < Bs.length := (List.getElem?_eq_some_iff.1 hd).1
      have i1 : (k : Int) < (Bs.length : Int) := by omega
      have i0 : (0 : Int) ≤ (k : Int) := by omega
      have ik : ¬ (k : Int) < 0 := by omega
      have HDK := hid hd
      subst hzk
      clear hneg hZ hZ2 hk hfit hfree hT hok hY hsub hd
      go_wp2_with (first
        | (go_at_call 16; clear TK0; refine (iApartAt _ _ _ _ room Bs ps x _ HR.out HN.out HP.out HTV.out HFL.out HID.out).mono ?_; rw [← HZ.out]; rintro e w2 ⟨rfl, hE2⟩; obtain ⟨q0, q1⟩ := KB.out _ hE2; have HE2 := hid hE2; clear hE2; have TK1 : Hid True := hid trivial)
        | (go_at_call 17; clear TK1; refine (sApartAt _ _ _ _ room Bs ps x _ (RI.ext HR.out HE2.out) (RB.ext HN.out HE2.out) (RP.ext HP.out HE2.out) (HTV.out.ext HE2.out) HFL.out).mono ?_; rw [← HZ.out]; rintro e w3 ⟨rfl, hE3⟩; have HE23 := hid hE3; have HE3 := hid (HE2.out.trans hE3); clear hE3; have TK2 : Hid True := hid trivial))
      obtain ⟨_, _, hvb, _, _, hgb⟩ := RB.get (RB.ext HN.out HE3.out)
      injection hvb with e1 _ e3
      subst e1 e3
      obtain ⟨bb, bo, d', Ad, cd, rfl, ed, cbd, hdr⟩ := hgb k hkl
      have hdd : d = d' := by have h1 := ed.out; rw [HDK.out] at h1; injection h1
      subst hdd
      have HDR := hid hdr
      have KS : Hid (∀ w', Ext w3 w' → w'.cell? ⟨bb, bo + k, none⟩ = some (.slice Ad d.length cd) ∧ w'.cell? ⟨H0, 0, none⟩ = some (.int .i64 x.id) ∧ w'.cell? ⟨H0, 1, none⟩ = some (.slice An x.need.length cn)) := hid fun w' hw => ⟨hw.cell cbd, (KB.out _ (HE3.out.trans hw)).1, (KB.out _ (HE3.out.trans hw)).2⟩
      have HDr : Hid (Ext w3 w3.drew) := hid (Below.drew (Below.refl _ _))
      obtain ⟨i0_task, hi0_task, hz0_task, hz1_task, hz2_task⟩ := info_parts info_task
      clear hgb cbd hdr ed
      refine WG.start (fun w' => w'.cell? ⟨bb, bo + k, none⟩ = some (.slice Ad d.length cd) ∧ w'.cell? ⟨H0, 0, none⟩ = some (.int .i64 x.id) ∧ w'.cell? ⟨H0, 1, none⟩ = some (.slice An x.need.length cn)) [8,9] (by kernel_rfl) (by exact KS.out _ HDr.out) (fun hHeld => ?_)
      obtain ⟨pz, hpz⟩ : ∃ x, x = w3.drew := ⟨_, rfl⟩
      rw [← hpz] at hHeld HDr ⊢
      clear hpz
      have HX := HDr
      (refine WG.take (i := 1) (v := ?_) rfl (by kernel_rfl) (by kernel_rfl) (by kernel_rfl) (by kernel_rfl) (fun _ _ _ h => h) (Or.inl ⟨by rfl, ?_⟩) (by assumption) ?_; rotate_left; (intro w hSw; (try dsimp only at hSw); go_split_ands; go_simp; (try with_reducible rfl)); (try simp only [Act.put, List.setIfInBounds_toArray, List.set_cons_zero, List.set_cons_succ]))
      (refine WG.take (i := 2) (v := ?_) rfl (by kernel_rfl) (by kernel_rfl) (by kernel_rfl) (by kernel_rfl) (fun _ _ _ h => h) (Or.inl ⟨by rfl, ?_⟩) (by assumption) ?_; rotate_left; (intro w hSw; (try dsimp only at hSw); go_split_ands; go_simp; (try with_reducible rfl)); (try simp only [Act.put, List.setIfInBounds_toArray, List.set_cons_zero, List.set_cons_succ]))
      (refine WG.take (i := 3) (v := ?_) rfl (by kernel_rfl) (by kernel_rfl) (by kernel_rfl) (by kernel_rfl) (fun _ _ _ h => h) (Or.inl ⟨by rfl, ?_⟩) (by assumption) ?_; rotate_left; (intro w hSw; (try dsimp only at hSw); go_split_ands; go_simp; (try with_reducible rfl)); (try simp only [Act.put, List.setIfInBounds_toArray, List.set_cons_zero, List.set_cons_succ]))
      (refine WG.take (i := 4) (v := ?_) rfl (by kernel_rfl) (by kernel_rfl) (by kernel_rfl) (by kernel_rfl) (fun _ _ _ h => h) (Or.inl ⟨by rfl, ?_⟩) (by assumption) ?_; rotate_left; (intro w hSw; (try dsimp only at hSw); go_split_ands; go_simp; (try with_reducible rfl)); (try simp only [Act.put, List.setIfInBounds_toArray, List.set_cons_zero, List.set_cons_succ]))
      (refine WG.take (i := 6) (v := ?_) rfl (by kernel_rfl) (by kernel_rfl) (by kernel_rfl) (by kernel_rfl) (fun _ _ _ h => h) (Or.inl ⟨by rfl, ?_⟩) (by assumption) ?_; rotate_left; (intro w hSw; (try dsimp only at hSw); go_split_ands; go_simp; (try with_reducible rfl)); (try simp only [Act.put, List.setIfInBounds_toArray, List.set_cons_zero, List.set_cons_succ]))
      refine WG.two (i := 0) (j := 7) rfl rfl (by kernel_rfl) (fun K hK => ?_) (fun K hK => ?_)
      · go_simp
        refine hK.out _ _ (by exact KS.out _ (HX.out.trans (Ext.alloc _ _))) (fun hHeld => ?_)
        clear hK K
        (try simp only [Act.put, List.setIfInBounds_toArray, List.set_cons_zero, List.set_cons_succ])
        obtain ⟨p1, hp1⟩ : ∃ x, x = pz.alloc (.cells #[] 34) := ⟨_, rfl⟩
        obtain ⟨BE, hBE⟩ : ∃ x, x = pz.heap.size := ⟨_, rfl⟩
        have hE : Ext pz p1 := by rw [hp1]; exact Ext.alloc _ _
        have HM : Hid (OT p1 BE (.slice (some ⟨BE, 0, none⟩) 0 0) []) := hid (by rw [hp1]; exact Own.madeAt #[] 0 BE hBE.symm (Nat.le_refl _) (by omega) rfl)
        have HBE : Hid (w3.heap.size ≤ BE) := hid (by rw [hBE]; exact HX.out.size)
        rw [← hp1] at hHeld ⊢
        rw [← hBE]
        have HX := hid (HX.out.trans hE)
        have HQZ : Hid (BE ≤ p1.heap.size) := hid (by rw [hBE]; exact hE.size)
        clear hp1 hBE hE
        refine WG.two (i := 5) (j := 7) rfl rfl (by kernel_rfl) (fun K hK => ?_) (fun K hK => ?_)
        · have hbe : BE ≤ p1.heap.size := HQZ.out
          have HM0B : Hid (∀ q, (Value.slice (some ⟨BE, 0, none⟩) 0 0).ownBlock = some q → q = BE) := hid (fun q hq => by simpa [Value.ownBlock] using hq.symm)
          have hbnd := HBND.out
          refine step_append_sl _ (by rfl) _ _ 24 (by rfl) ET.ok ET.flat (BE) 34 ET.ne i0_task _ 2 32 Try.underlying24 hi0_task hz0_task hz1_task hz2_task rfl (by omega) _ (by rfl) _ (HM.out) _ (by rfl) _ (RT.ext HDR.out HX.out) (by simp; omega) (by simp; omega) ?_ ?_; (focus (first | exact Nat.le_refl _ | (simp; done) | (simp; omega) | omega)); intro v33 p2 hO hg hat hs; have HV : Hid (OT p2 BE v33 d) := hid (by simpa using hO); have HQZ := hid (Nat.le_trans HQZ.out hg.size); have HX2 : Hid (Ext w3 p2) := hid (Below.grown HX.out hg HX.out.size (fun q hq => Nat.le_trans HBE.out (Own.lt HM.out q hq).1)); clear hO hg hat hs hbe hbnd
          refine hK.out _ _ (by exact KS.out _ HX2.out) (fun hHeld => ?_)
          clear hK K
          (try simp only [Act.put, List.setIfInBounds_toArray, List.set_cons_zero, List.set_cons_succ])
          have HX := HX2
          clear HX2
          refine WG.one (i := 7) rfl (by kernel_rfl) (fun K hK => ?_)
          go_simp
          refine hK.out _ _ (by exact KS.out _ (HX.out.trans (Ext.alloc _ _))) (fun hHeld => ?_)
          clear hK K
          (try simp only [Act.put, List.setIfInBounds_toArray, List.set_cons_zero, List.set_cons_succ])
          obtain ⟨p3, hp3⟩ : ∃ yy, yy = p2.alloc (.cells #[.int .i64 x.id, .slice An x.need.length cn] 34) := ⟨_, rfl⟩
          obtain ⟨BL, hBL⟩ : ∃ x, x = p2.heap.size := ⟨_, rfl⟩
          have hE : Ext p2 p3 := by rw [hp3]; exact Ext.alloc _ _
          have HL : Hid (p3.heap[BL]? = some (.cells #[.int .i64 x.id, .slice An x.need.length cn] 34 (0, 0))) := hid (by rw [hp3, hBL]; exact heap_alloc_new _ _)
          rw [← hp3] at hHeld ⊢
          rw [← hBL]
          have HX := hid (HX.out.trans hE)
          have HQZ := hid (Nat.le_trans HQZ.out hE.size)
          have HV := hid (Own.ext ET.ok HV.out hE)
          clear hp3 hBL hE
          have hbe : BE ≤ p3.heap.size := HQZ.out
          have hbnd := HBND.out
          refine WG.one (i := 8) rfl (by kernel_rfl) (fun K hK => ?_)
          refine step_append_sl _ (by rfl) _ _ 24 (by rfl) ET.ok ET.flat (BE) 34 ET.ne i0_task _ 2 32 Try.underlying24 hi0_task hz0_task hz1_task hz2_task rfl (by omega) _ (by rfl) _ (HV.out) _ (by rfl) _ (RSl.laid (cs := [.int .i64 x.id, .slice An x.need.length cn]) (x := x) HL.out rfl ⟨_, rfl, RI.ext HXR.out (HE3.out.trans HX.out)⟩) (by simp; omega) (by simp; omega) ?_ ?_; (focus (first | exact Nat.le_refl _ | (simp; done) | (simp; omega) | omega)); intro v12 w12 hO12 hg12 hat12 hs12; have HY12 := hid hO12; have HX12 : Hid (Ext w3 w12) := hid (Below.grown HX.out hg12 HX.out.size (fun q hq => Nat.le_trans HBE.out (Own.lt HV.out q hq).1)); clear hO12 hg12 hat12 hs12 hbe hbnd
          refine hK.out _ _ (by exact KS.out _ HX12.out) (fun hHeld => ?_)
          clear hK K
          (try simp only [Act.put, List.setIfInBounds_toArray, List.set_cons_zero, List.set_cons_succ])
          refine WG.last (i := 9) rfl (by kernel_rfl) (by kernel_rfl) (fun K hK => ?_)
          go_simp
          refine hK.out _ _ ?_
          clear hK K
          (try simp only [Act.put, List.setIfInBounds_toArray, List.set_cons_zero, List.set_cons_succ])
          refine WG.done (by kernel_rfl) ?_
          obtain ⟨A12, c12, hv12, _, _⟩ := HY12.out.form_app
          subst hv12
          have HXW := hid (HE3.out.trans HX12.out)
          have HRT12 := hid HY12.out.read
          have HSZ12 : Hid (w1.heap.size ≤ w12.heap.size) := hid HXW.out.size
          obtain ⟨WB, hWB⟩ : ∃ yy, yy = w12.alloc (.cells #[.slice A12 (d.length + 1) c12] 24) := ⟨_, rfl⟩
          have hEB : Ext w12 WB := by rw [hWB]; exact Ext.alloc _ _
          have hRB : RB WB (.slice (some ⟨w12.heap.size, 0, none⟩) 1 1) [d ++ [x]] := RSl.laid (cs := [.slice A12 (d.length + 1) c12]) (x := d ++ [x]) (by rw [hWB]; exact heap_alloc_new _ _) rfl ⟨_, rfl, RT.ext HRT12.out hEB⟩
          have HEB := hid (HXW.out.trans hEB)
          have HRB := hid hRB
          clear hEB hRB
          go_wp2_with (go_at_call 30; rw [← hWB]; refine (iPairsBroken _ _ _ room [d ++ [x]] ps _ (RI.ext HR.out HEB.out) HRB.out (RP.ext HP.out HEB.out) HFD.out HID1.out).mono ?_; rw [← HT.out]; rintro e w13 ⟨v13, rfl, hI13, hE13⟩; have HI13 := hid hI13; obtain ⟨A13, c13, hv13, _⟩ := RI.get hI13; subst hv13; have HE13 := hid (HEB.out.trans hE13); have HRT13 := hid (RT.ext HRT12.out ((by rw [hWB]; exact Ext.alloc _ _ : Ext w12 WB).trans hE13)); clear hI13 hE13 hWB)
          obtain ⟨_, _, hvI, _, _, hgI⟩ := RI.get HI13.out
          injection hvI with e1 _ e3
          subst e1 e3
          obtain ⟨_, _, hvP, _, _, hgP⟩ := RP.get HP.out
          injection hvP with e1 _ e3
          subst e1 e3
          have HGI := hid hgI
          have HGP := hid hgP
          clear hgI hgP
          go_loopw [11] (fun i wr => ∃ j : Nat, j ≤ T.length ∧ i = .int .i64 j ∧ Hid (Ext w13 wr)) (fun i _ => T.length - (intOf i).toNat)
          case atStart => exact ⟨0, Nat.zero_le _, rfl, hid (Ext.refl _)⟩
          case round =>
            obtain ⟨j, hj, rfl, HE⟩ := hrel
            by_cases hlt : j < T.length
            · obtain ⟨ib, io, z, rfl, ez, cz⟩ := HGI.out j hlt
              obtain ⟨i', hi', rfl, hna, hnb⟩ := HUB.out z (List.mem_of_getElem? ez.out)
              obtain ⟨pb, po, q, rfl, eq, ca, cb⟩ := HGP.out i' hi'
              have hq : ps.getD i' default = q := by rw [List.getD_eq_getElem?_getD, eq.out]; rfl
              rw [hq] at hna hnb
              have i1 : (j : Int) < (T.length : Int) := by omega
              have i0 : (0 : Int) ≤ (j : Int) := by omega
              have i3 : (i' : Int) < (ps.length : Int) := by omega
              have i2 : (0 : Int) ≤ (i' : Int) := by omega
              have HNA : Hid ((q.a == x.id) = false) := hid (by simp [hna])
              have HNB : Hid ((q.b == x.id) = false) := hid (by simp [hnb])
              have KR : Hid (∀ w', Ext wr w' → w'.cell? ⟨ib, io + j, none⟩ = some (.int .i64 (i' : Int)) ∧ w'.cell? ⟨pb, po + i' * 2, none⟩ = some (.int .i64 q.a) ∧ w'.cell? ⟨pb, po + i' * 2 + 1, none⟩ = some (.int .i64 q.b) ∧ w'.cell? ⟨H0, 0, none⟩ = some (.int .i64 x.id)) := hid fun w' hw => ⟨(HE.out.trans hw).cell cz, (HE13.out.trans (HE.out.trans hw)).cell ca, (HE13.out.trans (HE.out.trans hw)).cell cb, (KB.out _ (HE13.out.trans (HE.out.trans hw))).1⟩
              have HDq : Hid (Ext wr wr.drew) := hid (Below.drew (Below.refl _ _))
              clear hq hna hnb cz ca cb
              go_wp2
              refine WG.start (fun w' => w'.cell? ⟨ib, io + j, none⟩ = some (.int .i64 (i' : Int)) ∧ w'.cell? ⟨pb, po + i' * 2, none⟩ = some (.int .i64 q.a) ∧ w'.cell? ⟨pb, po + i' * 2 + 1, none⟩ = some (.int .i64 q.b) ∧ w'.cell? ⟨H0, 0, none⟩ = some (.int .i64 x.id)) [] (by kernel_rfl) (by exact KR.out _ HDq.out) (fun hHeld => ?_)
              (refine WG.take (i := 0) (v := ?_) rfl (by kernel_rfl) (by kernel_rfl) (by kernel_rfl) (by kernel_rfl) (fun _ _ _ h => h) (Or.inl ⟨by rfl, ?_⟩) (by assumption) ?_; rotate_left; (intro w hSw; (try dsimp only at hSw); go_split_ands; go_simp; (try with_reducible rfl)); (try simp only [Act.put, List.setIfInBounds_toArray, List.set_cons_zero, List.set_cons_succ]))
              (refine WG.take (i := 1) (v := ?_) rfl (by kernel_rfl) (by kernel_rfl) (by kernel_rfl) (by kernel_rfl) (fun _ _ _ h => h) (Or.inl ⟨by rfl, ?_⟩) (by assumption) ?_; rotate_left; (intro w hSw; (try dsimp only at hSw); go_split_ands; go_simp; (try with_reducible rfl)); (try simp only [Act.put, List.setIfInBounds_toArray, List.set_cons_zero, List.set_cons_succ]))
              (refine WG.take (i := 2) (v := ?_) rfl (by kernel_rfl) (by kernel_rfl) (by kernel_rfl) (by kernel_rfl) (fun _ _ _ h => h) (Or.inl ⟨by rfl, ?_⟩) (by assumption) ?_; rotate_left; (intro w hSw; (try dsimp only at hSw); go_split_ands; go_simp; (try with_reducible rfl)); (try simp only [Act.put, List.setIfInBounds_toArray, List.set_cons_zero, List.set_cons_succ]))
              (refine WG.take (i := 3) (v := ?_) rfl (by kernel_rfl) (by kernel_rfl) (by kernel_rfl) (by kernel_rfl) (fun _ _ _ h => h) (Or.inl ⟨by rfl, ?_⟩) (by assumption) ?_; rotate_left; (intro w hSw; (try dsimp only at hSw); go_split_ands; go_simp; (try with_reducible rfl)); (try simp only [Act.put, List.setIfInBounds_toArray, List.set_cons_zero, List.set_cons_succ]))
              (refine WG.take (i := 4) (v := ?_) rfl (by kernel_rfl) (by kernel_rfl) (by kernel_rfl) (by kernel_rfl) (fun _ _ _ h => h) (Or.inl ⟨by rfl, ?_⟩) (by assumption) ?_; rotate_left; (intro w hSw; (try dsimp only at hSw); go_split_ands; go_simp; (try with_reducible rfl)); (try simp only [Act.put, List.setIfInBounds_toArray, List.set_cons_zero, List.set_cons_succ]))
              (refine WG.take (i := 5) (v := ?_) rfl (by kernel_rfl) (by kernel_rfl) (by kernel_rfl) (by kernel_rfl) (fun _ _ _ h => h) (Or.inl ⟨by rfl, ?_⟩) (by assumption) ?_; rotate_left; (intro w hSw; (try dsimp only at hSw); go_split_ands; go_simp; (try with_reducible rfl)); (try simp only [Act.put, List.setIfInBounds_toArray, List.set_cons_zero, List.set_cons_succ]))
              (refine WG.take (i := 6) (v := ?_) rfl (by kernel_rfl) (by kernel_rfl) (by kernel_rfl) (by kernel_rfl) (fun _ _ _ h => h) (Or.inl ⟨by rfl, ?_⟩) (by assumption) ?_; rotate_left; (intro w hSw; (try dsimp only at hSw); go_split_ands; go_simp; (try with_reducible rfl)); (try simp only [Act.put, List.setIfInBounds_toArray, List.set_cons_zero, List.set_cons_succ]))
              (refine WG.take (i := 7) (v := ?_) rfl (by kernel_rfl) (by kernel_rfl) (by kernel_rfl) (by kernel_rfl) (fun _ _ _ h => h) (Or.inl ⟨by rfl, ?_⟩) (by assumption) ?_; rotate_left; (intro w hSw; (try dsimp only at hSw); go_split_ands; go_simp; (try with_reducible rfl)); (try simp only [Act.put, List.setIfInBounds_toArray, List.set_cons_zero, List.set_cons_succ]))
              (refine WG.take (i := 8) (v := ?_) rfl (by kernel_rfl) (by kernel_rfl) (by kernel_rfl) (by kernel_rfl) (fun _ _ _ h => h) (Or.inl ⟨by rfl, ?_⟩) (by assumption) ?_; rotate_left; (intro w hSw; (try dsimp only at hSw); go_split_ands; go_simp; (try with_reducible rfl)); (try simp only [Act.put, List.setIfInBounds_toArray, List.set_cons_zero, List.set_cons_succ]))
              (refine WG.take (i := 9) (v := ?_) rfl (by kernel_rfl) (by kernel_rfl) (by kernel_rfl) (by kernel_rfl) (fun _ _ _ h => h) (Or.inl ⟨by rfl, ?_⟩) (by assumption) ?_; rotate_left; (intro w hSw; (try dsimp only at hSw); go_split_ands; go_simp; (try with_reducible rfl)); (try simp only [Act.put, List.setIfInBounds_toArray, List.set_cons_zero, List.set_cons_succ]))
              (refine WG.take (i := 10) (v := ?_) rfl (by kernel_rfl) (by kernel_rfl) (by kernel_rfl) (by kernel_rfl) (fun _ _ _ h => h) (Or.inl ⟨by rfl, ?_⟩) (by assumption) ?_; rotate_left; (intro w hSw; (try dsimp only at hSw); go_split_ands; go_simp; (try with_reducible rfl)); (try simp only [Act.put, List.setIfInBounds_toArray, List.set_cons_zero, List.set_cons_succ]))
              (first | rw [HNA.out] | skip)
              (refine WG.take (i := 11) (v := ?_) rfl (by kernel_rfl) (by kernel_rfl) (by kernel_rfl) (by kernel_rfl) (fun _ _ _ h => h) (Or.inl ⟨by rfl, ?_⟩) (by assumption) ?_; rotate_left; (intro w hSw; (try dsimp only at hSw); go_split_ands; go_simp; (try with_reducible rfl)); (try simp only [Act.put, List.setIfInBounds_toArray, List.set_cons_zero, List.set_cons_succ]))
              (refine WG.take (i := 12) (v := ?_) rfl (by kernel_rfl) (by kernel_rfl) (by kernel_rfl) (by kernel_rfl) (fun _ _ _ h => h) (Or.inl ⟨by rfl, ?_⟩) (by assumption) ?_; rotate_left; (intro w hSw; (try dsimp only at hSw); go_split_ands; go_simp; (try with_reducible rfl)); (try simp only [Act.put, List.setIfInBounds_toArray, List.set_cons_zero, List.set_cons_succ]))
              (refine WG.take (i := 13) (v := ?_) rfl (by kernel_rfl) (by kernel_rfl) (by kernel_rfl) (by kernel_rfl) (fun _ _ _ h => h) (Or.inl ⟨by rfl, ?_⟩) (by assumption) ?_; rotate_left; (intro w hSw; (try dsimp only at hSw); go_split_ands; go_simp; (try with_reducible rfl)); (try simp only [Act.put, List.setIfInBounds_toArray, List.set_cons_zero, List.set_cons_succ]))
              (refine WG.take (i := 14) (v := ?_) rfl (by kernel_rfl) (by kernel_rfl) (by kernel_rfl) (by kernel_rfl) (fun _ _ _ h => h) (Or.inl ⟨by rfl, ?_⟩) (by assumption) ?_; rotate_left; (intro w hSw; (try dsimp only at hSw); go_split_ands; go_simp; (try with_reducible rfl)); (try simp only [Act.put, List.setIfInBounds_toArray, List.set_cons_zero, List.set_cons_succ]))
              (refine WG.take (i := 15) (v := ?_) rfl (by kernel_rfl) (by kernel_rfl) (by kernel_rfl) (by kernel_rfl) (fun _ _ _ h => h) (Or.inl ⟨by rfl, ?_⟩) (by assumption) ?_; rotate_left; (intro w hSw; (try dsimp only at hSw); go_split_ands; go_simp; (try with_reducible rfl)); (try simp only [Act.put, List.setIfInBounds_toArray, List.set_cons_zero, List.set_cons_succ]))
              (refine WG.take (i := 16) (v := ?_) rfl (by kernel_rfl) (by kernel_rfl) (by kernel_rfl) (by kernel_rfl) (fun _ _ _ h => h) (Or.inl ⟨by rfl, ?_⟩) (by assumption) ?_; rotate_left; (intro w hSw; (try dsimp only at hSw); go_split_ands; go_simp; (try with_reducible rfl)); (try simp only [Act.put, List.setIfInBounds_toArray, List.set_cons_zero, List.set_cons_succ]))
              (refine WG.take (i := 17) (v := ?_) rfl (by kernel_rfl) (by kernel_rfl) (by kernel_rfl) (by kernel_rfl) (fun _ _ _ h => h) (Or.inl ⟨by rfl, ?_⟩) (by assumption) ?_; rotate_left; (intro w hSw; (try dsimp only at hSw); go_split_ands; go_simp; (try with_reducible rfl)); (try simp only [Act.put, List.setIfInBounds_toArray, List.set_cons_zero, List.set_cons_succ]))
              (refine WG.take (i := 18) (v := ?_) rfl (by kernel_rfl) (by kernel_rfl) (by kernel_rfl) (by kernel_rfl) (fun _ _ _ h => h) (Or.inl ⟨by rfl, ?_⟩) (by assumption) ?_; rotate_left; (intro w hSw; (try dsimp only at hSw); go_split_ands; go_simp; (try with_reducible rfl)); (try simp only [Act.put, List.setIfInBounds_toArray, List.set_cons_zero, List.set_cons_succ]))
              (refine WG.take (i := 19) (v := ?_) rfl (by kernel_rfl) (by kernel_rfl) (by kernel_rfl) (by kernel_rfl) (fun _ _ _ h => h) (Or.inl ⟨by rfl, ?_⟩) (by assumption) ?_; rotate_left; (intro w hSw; (try dsimp only at hSw); go_split_ands; go_simp; (try with_reducible rfl)); (try simp only [Act.put, List.setIfInBounds_toArray, List.set_cons_zero, List.set_cons_succ]))
              (refine WG.take (i := 20) (v := ?_) rfl (by kernel_rfl) (by kernel_rfl) (by kernel_rfl) (by kernel_rfl) (fun _ _ _ h => h) (Or.inl ⟨by rfl, ?_⟩) (by assumption) ?_; rotate_left; (intro w hSw; (try dsimp only at hSw); go_split_ands; go_simp; (try with_reducible rfl)); (try simp only [Act.put, List.setIfInBounds_toArray, List.set_cons_zero, List.set_cons_succ]))
              (refine WG.take (i := 21) (v := ?_) rfl (by kernel_rfl) (by kernel_rfl) (by kernel_rfl) (by kernel_rfl) (fun _ _ _ h => h) (Or.inl ⟨by rfl, ?_⟩) (by assumption) ?_; rotate_left; (intro w hSw; (try dsimp only at hSw); go_split_ands; go_simp; (try with_reducible rfl)); (try simp only [Act.put, List.setIfInBounds_toArray, List.set_cons_zero, List.set_cons_succ]))
              (refine WG.take (i := 22) (v := ?_) rfl (by kernel_rfl) (by kernel_rfl) (by kernel_rfl) (by kernel_rfl) (fun _ _ _ h => h) (Or.inl ⟨by rfl, ?_⟩) (by assumption) ?_; rotate_left; (intro w hSw; (try dsimp only at hSw); go_split_ands; go_simp; (try with_reducible rfl)); (try simp only [Act.put, List.setIfInBounds_toArray, List.set_cons_zero, List.set_cons_succ]))
              (first | rw [HNB.out] | skip)
              (refine WG.take (i := 23) (v := ?_) rfl (by kernel_rfl) (by kernel_rfl) (by kernel_rfl) (by kernel_rfl) (fun _ _ _ h => h) (Or.inl ⟨by rfl, ?_⟩) (by assumption) ?_; rotate_left; (intro w hSw; (try dsimp only at hSw); go_split_ands; go_simp; (try with_reducible rfl)); (try simp only [Act.put, List.setIfInBounds_toArray, List.set_cons_zero, List.set_cons_succ]))
              refine WG.done (by kernel_rfl) ?_
              go_wp2
              go_roundw
              case rel => exact ⟨j + 1, by omega, by go_num, hid (HE.out.trans HDq.out)⟩
              case measure => simp [intOf]; omega
            · have HEw := hid (HE13.out.trans HE.out)
              obtain ⟨WC, hWC⟩ : ∃ y, y = wr.alloc (.cells #[.slice A12 (d.length + 1) c12] 24) := ⟨_, rfl⟩
              have hEC : Ext wr WC := by rw [hWC]; exact Ext.alloc _ _
              have HRC : Hid (RB WC (.slice (some ⟨wr.heap.size, 0, none⟩) 1 1) [d ++ [x]]) := hid (RSl.laid (cs := [.slice A12 (d.length + 1) c12]) (x := d ++ [x]) (by rw [hWC]; exact heap_alloc_new _ _) rfl ⟨_, rfl, RT.ext HRT13.out (HE.out.trans hEC)⟩)
              have HEC := hid (HEw.out.trans hEC)
              clear hEC
              go_wp2_with (first
                | (go_at_call 31; rw [← hWC]; refine (iBinsValid _ _ room [d ++ [x]] _ (RI.ext HR.out HEC.out) HRC.out (by have := HFD.out; omega) HID1.out).mono ?_; rintro e w15 ⟨rfl, hE15⟩; rw [HOK1.out]; obtain ⟨q0, q1⟩ := KB.out _ (HEC.out.trans hE15); have HE15 := hid (HEC.out.trans hE15); clear hE15 hWC)
                | (go_at_call 18; refine (iFirstAt _ _ _ room Bs x _ (RI.ext HR.out HE15.out) (RB.ext HN.out HE15.out) (HTV.out.ext HE15.out) HFL.out HID.out).mono ?_; rw [HFA.out]; rintro e w16 ⟨rfl, hE16⟩; have HE16 := hid (HE15.out.trans hE16); clear hE16))
              go_ret
              exact ⟨rfl, HE0.out.trans HE16.out⟩

        · go_simp
          refine hK.out _ _ (by exact KS.out _ (HX.out.trans (Ext.alloc _ _))) (fun hHeld => ?_)
          clear hK K
          (try simp only [Act.put, List.setIfInBounds_toArray, List.set_cons_zero, List.set_cons_succ])
          obtain ⟨p2, hp2⟩ : ∃ yy, yy = p1.alloc (.cells #[.int .i64 x.id, .slice An x.need.length cn] 34) := ⟨_, rfl⟩
          obtain ⟨BL, hBL⟩ : ∃ x, x = p1.heap.size := ⟨_, rfl⟩
          have hE : Ext p1 p2 := by rw [hp2]; exact Ext.alloc _ _
          have HL : Hid (p2.heap[BL]? = some (.cells #[.int .i64 x.id, .slice An x.need.length cn] 34 (0, 0))) := hid (by rw [hp2, hBL]; exact heap_alloc_new _ _)
          have NEL : Hid (BE < BL) := hid (by rw [hBL]; exact (Own.lt HM.out BE rfl).2)
          rw [← hp2] at hHeld ⊢
          rw [← hBL]
          have HX := hid (HX.out.trans hE)
          have HQZ := hid (Nat.le_trans HQZ.out hE.size)
          have HM := hid (Own.ext ET.ok HM.out hE)
          clear hp2 hBL hE
          refine WG.one (i := 5) rfl (by kernel_rfl) (fun K hK => ?_)
          have hbe : BE ≤ p2.heap.size := HQZ.out
          have HM0B : Hid (∀ q, (Value.slice (some ⟨BE, 0, none⟩) 0 0).ownBlock = some q → q = BE) := hid (fun q hq => by simpa [Value.ownBlock] using hq.symm)
          have hbnd := HBND.out
          refine step_append_sl _ (by rfl) _ _ 24 (by rfl) ET.ok ET.flat (BE) 34 ET.ne i0_task _ 2 32 Try.underlying24 hi0_task hz0_task hz1_task hz2_task rfl (by omega) _ (by rfl) _ (HM.out) _ (by rfl) _ (RT.ext HDR.out HX.out) (by simp; omega) (by simp; omega) ?_ ?_; (focus (first | exact Nat.le_refl _ | (simp; done) | (simp; omega) | omega)); intro v33 p3 hO hg hat hs; have HV : Hid (OT p3 BE v33 d) := hid (by simpa using hO); have HQZ := hid (Nat.le_trans HQZ.out hg.size); have HX2 : Hid (Ext w3 p3) := hid (Below.grown HX.out hg HX.out.size (fun q hq => Nat.le_trans HBE.out (Own.lt HM.out q hq).1)); have HL := hid ((hg.block BL (obj_lt HL.out) (fun e => by have h1 := NEL.out; have h2 := HM0B.out BL e.symm; omega)).trans HL.out); clear hO hg hat hs hbe hbnd
          refine hK.out _ _ (by exact KS.out _ HX2.out) (fun hHeld => ?_)
          clear hK K
          (try simp only [Act.put, List.setIfInBounds_toArray, List.set_cons_zero, List.set_cons_succ])
          have HX := HX2
          clear HX2
          have hbe : BE ≤ p3.heap.size := HQZ.out
          have hbnd := HBND.out
          refine WG.one (i := 8) rfl (by kernel_rfl) (fun K hK => ?_)
          refine step_append_sl _ (by rfl) _ _ 24 (by rfl) ET.ok ET.flat (BE) 34 ET.ne i0_task _ 2 32 Try.underlying24 hi0_task hz0_task hz1_task hz2_task rfl (by omega) _ (by rfl) _ (HV.out) _ (by rfl) _ (RSl.laid (cs := [.int .i64 x.id, .slice An x.need.length cn]) (x := x) HL.out rfl ⟨_, rfl, RI.ext HXR.out (HE3.out.trans HX.out)⟩) (by simp; omega) (by simp; omega) ?_ ?_; (focus (first | exact Nat.le_refl _ | (simp; done) | (simp; omega) | omega)); intro v12 w12 hO12 hg12 hat12 hs12; have HY12 := hid hO12; have HX12 : Hid (Ext w3 w12) := hid (Below.grown HX.out hg12 HX.out.size (fun q hq => Nat.le_trans HBE.out (Own.lt HV.out q hq).1)); clear hO12 hg12 hat12 hs12 hbe hbnd
          refine hK.out _ _ (by exact KS.out _ HX12.out) (fun hHeld => ?_)
          clear hK K
          (try simp only [Act.put, List.setIfInBounds_toArray, List.set_cons_zero, List.set_cons_succ])
          refine WG.last (i := 9) rfl (by kernel_rfl) (by kernel_rfl) (fun K hK => ?_)
          go_simp
          refine hK.out _ _ ?_
          clear hK K
          (try simp only [Act.put, List.setIfInBounds_toArray, List.set_cons_zero, List.set_cons_succ])
          refine WG.done (by kernel_rfl) ?_
          obtain ⟨A12, c12, hv12, _, _⟩ := HY12.out.form_app
          subst hv12
          have HXW := hid (HE3.out.trans HX12.out)
          have HRT12 := hid HY12.out.read
          have HSZ12 : Hid (w1.heap.size ≤ w12.heap.size) := hid HXW.out.size
          obtain ⟨WB, hWB⟩ : ∃ yy, yy = w12.alloc (.cells #[.slice A12 (d.length + 1) c12] 24) := ⟨_, rfl⟩
          have hEB : Ext w12 WB := by rw [hWB]; exact Ext.alloc _ _
          have hRB : RB WB (.slice (some ⟨w12.heap.size, 0, none⟩) 1 1) [d ++ [x]] := RSl.laid (cs := [.slice A12 (d.length + 1) c12]) (x := d ++ [x]) (by rw [hWB]; exact heap_alloc_new _ _) rfl ⟨_, rfl, RT.ext HRT12.out hEB⟩
          have HEB := hid (HXW.out.trans hEB)
          have HRB := hid hRB
          clear hEB hRB
          go_wp2_with (go_at_call 30; rw [← hWB]; refine (iPairsBroken _ _ _ room [d ++ [x]] ps _ (RI.ext HR.out HEB.out) HRB.out (RP.ext HP.out HEB.out) HFD.out HID1.out).mono ?_; rw [← HT.out]; rintro e w13 ⟨v13, rfl, hI13, hE13⟩; have HI13 := hid hI13; obtain ⟨A13, c13, hv13, _⟩ := RI.get hI13; subst hv13; have HE13 := hid (HEB.out.trans hE13); have HRT13 := hid (RT.ext HRT12.out ((by rw [hWB]; exact Ext.alloc _ _ : Ext w12 WB).trans hE13)); clear hI13 hE13 hWB)
          obtain ⟨_, _, hvI, _, _, hgI⟩ := RI.get HI13.out
          injection hvI with e1 _ e3
          subst e1 e3
          obtain ⟨_, _, hvP, _, _, hgP⟩ := RP.get HP.out
          injection hvP with e1 _ e3
          subst e1 e3
          have HGI := hid hgI
          have HGP := hid hgP
          clear hgI hgP
          go_loopw [11] (fun i wr => ∃ j : Nat, j ≤ T.length ∧ i = .int .i64 j ∧ Hid (Ext w13 wr)) (fun i _ => T.length - (intOf i).toNat)
          case atStart => exact ⟨0, Nat.zero_le _, rfl, hid (Ext.refl _)⟩
          case round =>
            obtain ⟨j, hj, rfl, HE⟩ := hrel
            by_cases hlt : j < T.length
            · obtain ⟨ib, io, z, rfl, ez, cz⟩ := HGI.out j hlt
              obtain ⟨i', hi', rfl, hna, hnb⟩ := HUB.out z (List.mem_of_getElem? ez.out)
              obtain ⟨pb, po, q, rfl, eq, ca, cb⟩ := HGP.out i' hi'
              have hq : ps.getD i' default = q := by rw [List.getD_eq_getElem?_getD, eq.out]; rfl
              rw [hq] at hna hnb
              have i1 : (j : Int) < (T.length : Int) := by omega
              have i0 : (0 : Int) ≤ (j : Int) := by omega
              have i3 : (i' : Int) < (ps.length : Int) := by omega
              have i2 : (0 : Int) ≤ (i' : Int) := by omega
              have HNA : Hid ((q.a == x.id) = false) := hid (by simp [hna])
              have HNB : Hid ((q.b == x.id) = false) := hid (by simp [hnb])
              have KR : Hid (∀ w', Ext wr w' → w'.cell? ⟨ib, io + j, none⟩ = some (.int .i64 (i' : Int)) ∧ w'.cell? ⟨pb, po + i' * 2, none⟩ = some (.int .i64 q.a) ∧ w'.cell? ⟨pb, po + i' * 2 + 1, none⟩ = some (.int .i64 q.b) ∧ w'.cell? ⟨H0, 0, none⟩ = some (.int .i64 x.id)) := hid fun w' hw => ⟨(HE.out.trans hw).cell cz, (HE13.out.trans (HE.out.trans hw)).cell ca, (HE13.out.trans (HE.out.trans hw)).cell cb, (KB.out _ (HE13.out.trans (HE.out.trans hw))).1⟩
              have HDq : Hid (Ext wr wr.drew) := hid (Below.drew (Below.refl _ _))
              clear hq hna hnb cz ca cb
              go_wp2
              refine WG.start (fun w' => w'.cell? ⟨ib, io + j, none⟩ = some (.int .i64 (i' : Int)) ∧ w'.cell? ⟨pb, po + i' * 2, none⟩ = some (.int .i64 q.a) ∧ w'.cell? ⟨pb, po + i' * 2 + 1, none⟩ = some (.int .i64 q.b) ∧ w'.cell? ⟨H0, 0, none⟩ = some (.int .i64 x.id)) [] (by kernel_rfl) (by exact KR.out _ HDq.out) (fun hHeld => ?_)
              (refine WG.take (i := 0) (v := ?_) rfl (by kernel_rfl) (by kernel_rfl) (by kernel_rfl) (by kernel_rfl) (fun _ _ _ h => h) (Or.inl ⟨by rfl, ?_⟩) (by assumption) ?_; rotate_left; (intro w hSw; (try dsimp only at hSw); go_split_ands; go_simp; (try with_reducible rfl)); (try simp only [Act.put, List.setIfInBounds_toArray, List.set_cons_zero, List.set_cons_succ]))
              (refine WG.take (i := 1) (v := ?_) rfl (by kernel_rfl) (by kernel_rfl) (by kernel_rfl) (by kernel_rfl) (fun _ _ _ h => h) (Or.inl ⟨by rfl, ?_⟩) (by assumption) ?_; rotate_left; (intro w hSw; (try dsimp only at hSw); go_split_ands; go_simp; (try with_reducible rfl)); (try simp only [Act.put, List.setIfInBounds_toArray, List.set_cons_zero, List.set_cons_succ]))
              (refine WG.take (i := 2) (v := ?_) rfl (by kernel_rfl) (by kernel_rfl) (by kernel_rfl) (by kernel_rfl) (fun _ _ _ h => h) (Or.inl ⟨by rfl, ?_⟩) (by assumption) ?_; rotate_left; (intro w hSw; (try dsimp only at hSw); go_split_ands; go_simp; (try with_reducible rfl)); (try simp only [Act.put, List.setIfInBounds_toArray, List.set_cons_zero, List.set_cons_succ]))
              (refine WG.take (i := 3) (v := ?_) rfl (by kernel_rfl) (by kernel_rfl) (by kernel_rfl) (by kernel_rfl) (fun _ _ _ h => h) (Or.inl ⟨by rfl, ?_⟩) (by assumption) ?_; rotate_left; (intro w hSw; (try dsimp only at hSw); go_split_ands; go_simp; (try with_reducible rfl)); (try simp only [Act.put, List.setIfInBounds_toArray, List.set_cons_zero, List.set_cons_succ]))
              (refine WG.take (i := 4) (v := ?_) rfl (by kernel_rfl) (by kernel_rfl) (by kernel_rfl) (by kernel_rfl) (fun _ _ _ h => h) (Or.inl ⟨by rfl, ?_⟩) (by assumption) ?_; rotate_left; (intro w hSw; (try dsimp only at hSw); go_split_ands; go_simp; (try with_reducible rfl)); (try simp only [Act.put, List.setIfInBounds_toArray, List.set_cons_zero, List.set_cons_succ]))
              (refine WG.take (i := 5) (v := ?_) rfl (by kernel_rfl) (by kernel_rfl) (by kernel_rfl) (by kernel_rfl) (fun _ _ _ h => h) (Or.inl ⟨by rfl, ?_⟩) (by assumption) ?_; rotate_left; (intro w hSw; (try dsimp only at hSw); go_split_ands; go_simp; (try with_reducible rfl)); (try simp only [Act.put, List.setIfInBounds_toArray, List.set_cons_zero, List.set_cons_succ]))
              (refine WG.take (i := 6) (v := ?_) rfl (by kernel_rfl) (by kernel_rfl) (by kernel_rfl) (by kernel_rfl) (fun _ _ _ h => h) (Or.inl ⟨by rfl, ?_⟩) (by assumption) ?_; rotate_left; (intro w hSw; (try dsimp only at hSw); go_split_ands; go_simp; (try with_reducible rfl)); (try simp only [Act.put, List.setIfInBounds_toArray, List.set_cons_zero, List.set_cons_succ]))
              (refine WG.take (i := 7) (v := ?_) rfl (by kernel_rfl) (by kernel_rfl) (by kernel_rfl) (by kernel_rfl) (fun _ _ _ h => h) (Or.inl ⟨by rfl, ?_⟩) (by assumption) ?_; rotate_left; (intro w hSw; (try dsimp only at hSw); go_split_ands; go_simp; (try with_reducible rfl)); (try simp only [Act.put, List.setIfInBounds_toArray, List.set_cons_zero, List.set_cons_succ]))
              (refine WG.take (i := 8) (v := ?_) rfl (by kernel_rfl) (by kernel_rfl) (by kernel_rfl) (by kernel_rfl) (fun _ _ _ h => h) (Or.inl ⟨by rfl, ?_⟩) (by assumption) ?_; rotate_left; (intro w hSw; (try dsimp only at hSw); go_split_ands; go_simp; (try with_reducible rfl)); (try simp only [Act.put, List.setIfInBounds_toArray, List.set_cons_zero, List.set_cons_succ]))
              (refine WG.take (i := 9) (v := ?_) rfl (by kernel_rfl) (by kernel_rfl) (by kernel_rfl) (by kernel_rfl) (fun _ _ _ h => h) (Or.inl ⟨by rfl, ?_⟩) (by assumption) ?_; rotate_left; (intro w hSw; (try dsimp only at hSw); go_split_ands; go_simp; (try with_reducible rfl)); (try simp only [Act.put, List.setIfInBounds_toArray, List.set_cons_zero, List.set_cons_succ]))
              (refine WG.take (i := 10) (v := ?_) rfl (by kernel_rfl) (by kernel_rfl) (by kernel_rfl) (by kernel_rfl) (fun _ _ _ h => h) (Or.inl ⟨by rfl, ?_⟩) (by assumption) ?_; rotate_left; (intro w hSw; (try dsimp only at hSw); go_split_ands; go_simp; (try with_reducible rfl)); (try simp only [Act.put, List.setIfInBounds_toArray, List.set_cons_zero, List.set_cons_succ]))
              (first | rw [HNA.out] | skip)
              (refine WG.take (i := 11) (v := ?_) rfl (by kernel_rfl) (by kernel_rfl) (by kernel_rfl) (by kernel_rfl) (fun _ _ _ h => h) (Or.inl ⟨by rfl, ?_⟩) (by assumption) ?_; rotate_left; (intro w hSw; (try dsimp only at hSw); go_split_ands; go_simp; (try with_reducible rfl)); (try simp only [Act.put, List.setIfInBounds_toArray, List.set_cons_zero, List.set_cons_succ]))
              (refine WG.take (i := 12) (v := ?_) rfl (by kernel_rfl) (by kernel_rfl) (by kernel_rfl) (by kernel_rfl) (fun _ _ _ h => h) (Or.inl ⟨by rfl, ?_⟩) (by assumption) ?_; rotate_left; (intro w hSw; (try dsimp only at hSw); go_split_ands; go_simp; (try with_reducible rfl)); (try simp only [Act.put, List.setIfInBounds_toArray, List.set_cons_zero, List.set_cons_succ]))
              (refine WG.take (i := 13) (v := ?_) rfl (by kernel_rfl) (by kernel_rfl) (by kernel_rfl) (by kernel_rfl) (fun _ _ _ h => h) (Or.inl ⟨by rfl, ?_⟩) (by assumption) ?_; rotate_left; (intro w hSw; (try dsimp only at hSw); go_split_ands; go_simp; (try with_reducible rfl)); (try simp only [Act.put, List.setIfInBounds_toArray, List.set_cons_zero, List.set_cons_succ]))
              (refine WG.take (i := 14) (v := ?_) rfl (by kernel_rfl) (by kernel_rfl) (by kernel_rfl) (by kernel_rfl) (fun _ _ _ h => h) (Or.inl ⟨by rfl, ?_⟩) (by assumption) ?_; rotate_left; (intro w hSw; (try dsimp only at hSw); go_split_ands; go_simp; (try with_reducible rfl)); (try simp only [Act.put, List.setIfInBounds_toArray, List.set_cons_zero, List.set_cons_succ]))
              (refine WG.take (i := 15) (v := ?_) rfl (by kernel_rfl) (by kernel_rfl) (by kernel_rfl) (by kernel_rfl) (fun _ _ _ h => h) (Or.inl ⟨by rfl, ?_⟩) (by assumption) ?_; rotate_left; (intro w hSw; (try dsimp only at hSw); go_split_ands; go_simp; (try with_reducible rfl)); (try simp only [Act.put, List.setIfInBounds_toArray, List.set_cons_zero, List.set_cons_succ]))
              (refine WG.take (i := 16) (v := ?_) rfl (by kernel_rfl) (by kernel_rfl) (by kernel_rfl) (by kernel_rfl) (fun _ _ _ h => h) (Or.inl ⟨by rfl, ?_⟩) (by assumption) ?_; rotate_left; (intro w hSw; (try dsimp only at hSw); go_split_ands; go_simp; (try with_reducible rfl)); (try simp only [Act.put, List.setIfInBounds_toArray, List.set_cons_zero, List.set_cons_succ]))
              (refine WG.take (i := 17) (v := ?_) rfl (by kernel_rfl) (by kernel_rfl) (by kernel_rfl) (by kernel_rfl) (fun _ _ _ h => h) (Or.inl ⟨by rfl, ?_⟩) (by assumption) ?_; rotate_left; (intro w hSw; (try dsimp only at hSw); go_split_ands; go_simp; (try with_reducible rfl)); (try simp only [Act.put, List.setIfInBounds_toArray, List.set_cons_zero, List.set_cons_succ]))
              (refine WG.take (i := 18) (v := ?_) rfl (by kernel_rfl) (by kernel_rfl) (by kernel_rfl) (by kernel_rfl) (fun _ _ _ h => h) (Or.inl ⟨by rfl, ?_⟩) (by assumption) ?_; rotate_left; (intro w hSw; (try dsimp only at hSw); go_split_ands; go_simp; (try with_reducible rfl)); (try simp only [Act.put, List.setIfInBounds_toArray, List.set_cons_zero, List.set_cons_succ]))
              (refine WG.take (i := 19) (v := ?_) rfl (by kernel_rfl) (by kernel_rfl) (by kernel_rfl) (by kernel_rfl) (fun _ _ _ h => h) (Or.inl ⟨by rfl, ?_⟩) (by assumption) ?_; rotate_left; (intro w hSw; (try dsimp only at hSw); go_split_ands; go_simp; (try with_reducible rfl)); (try simp only [Act.put, List.setIfInBounds_toArray, List.set_cons_zero, List.set_cons_succ]))
              (refine WG.take (i := 20) (v := ?_) rfl (by kernel_rfl) (by kernel_rfl) (by kernel_rfl) (by kernel_rfl) (fun _ _ _ h => h) (Or.inl ⟨by rfl, ?_⟩) (by assumption) ?_; rotate_left; (intro w hSw; (try dsimp only at hSw); go_split_ands; go_simp; (try with_reducible rfl)); (try simp only [Act.put, List.setIfInBounds_toArray, List.set_cons_zero, List.set_cons_succ]))
              (refine WG.take (i := 21) (v := ?_) rfl (by kernel_rfl) (by kernel_rfl) (by kernel_rfl) (by kernel_rfl) (fun _ _ _ h => h) (Or.inl ⟨by rfl, ?_⟩) (by assumption) ?_; rotate_left; (intro w hSw; (try dsimp only at hSw); go_split_ands; go_simp; (try with_reducible rfl)); (try simp only [Act.put, List.setIfInBounds_toArray, List.set_cons_zero, List.set_cons_succ]))
              (refine WG.take (i := 22) (v := ?_) rfl (by kernel_rfl) (by kernel_rfl) (by kernel_rfl) (by kernel_rfl) (fun _ _ _ h => h) (Or.inl ⟨by rfl, ?_⟩) (by assumption) ?_; rotate_left; (intro w hSw; (try dsimp only at hSw); go_split_ands; go_simp; (try with_reducible rfl)); (try simp only [Act.put, List.setIfInBounds_toArray, List.set_cons_zero, List.set_cons_succ]))
              (first | rw [HNB.out] | skip)
              (refine WG.take (i := 23) (v := ?_) rfl (by kernel_rfl) (by kernel_rfl) (by kernel_rfl) (by kernel_rfl) (fun _ _ _ h => h) (Or.inl ⟨by rfl, ?_⟩) (by assumption) ?_; rotate_left; (intro w hSw; (try dsimp only at hSw); go_split_ands; go_simp; (try with_reducible rfl)); (try simp only [Act.put, List.setIfInBounds_toArray, List.set_cons_zero, List.set_cons_succ]))
              refine WG.done (by kernel_rfl) ?_
              go_wp2
              go_roundw
              case rel => exact ⟨j + 1, by omega, by go_num, hid (HE.out.trans HDq.out)⟩
              case measure => simp [intOf]; omega
            · have HEw := hid (HE13.out.trans HE.out)
              obtain ⟨WC, hWC⟩ : ∃ y, y = wr.alloc (.cells #[.slice A12 (d.length + 1) c12] 24) := ⟨_, rfl⟩
              have hEC : Ext wr WC := by rw [hWC]; exact Ext.alloc _ _
              have HRC : Hid (RB WC (.slice (some ⟨wr.heap.size, 0, none⟩) 1 1) [d ++ [x]]) := hid (RSl.laid (cs := [.slice A12 (d.length + 1) c12]) (x := d ++ [x]) (by rw [hWC]; exact heap_alloc_new _ _) rfl ⟨_, rfl, RT.ext HRT13.out (HE.out.trans hEC)⟩)
              have HEC := hid (HEw.out.trans hEC)
              clear hEC
              go_wp2_with (first
                | (go_at_call 31; rw [← hWC]; refine (iBinsValid _ _ room [d ++ [x]] _ (RI.ext HR.out HEC.out) HRC.out (by have := HFD.out; omega) HID1.out).mono ?_; rintro e w15 ⟨rfl, hE15⟩; rw [HOK1.out]; obtain ⟨q0, q1⟩ := KB.out _ (HEC.out.trans hE15); have HE15 := hid (HEC.out.trans hE15); clear hE15 hWC)
                | (go_at_call 18; refine (iFirstAt _ _ _ room Bs x _ (RI.ext HR.out HE15.out) (RB.ext HN.out HE15.out) (HTV.out.ext HE15.out) HFL.out HID.out).mono ?_; rw [HFA.out]; rintro e w16 ⟨rfl, hE16⟩; have HE16 := hid (HE15.out.trans hE16); clear hE16))
              go_ret
              exact ⟨rfl, HE0.out.trans HE16.out⟩

      · go_simp
        refine hK.out _ _ (by exact KS.out _ (HX.out.trans (Ext.alloc _ _))) (fun hHeld => ?_)
        clear hK K
        (try simp only [Act.put, List.setIfInBounds_toArray, List.set_cons_zero, List.set_cons_succ])
        obtain ⟨p1, hp1⟩ : ∃ yy, yy = pz.alloc (.cells #[.int .i64 x.id, .slice An x.need.length cn] 34) := ⟨_, rfl⟩
        obtain ⟨BL, hBL⟩ : ∃ x, x = pz.heap.size := ⟨_, rfl⟩
        have hE : Ext pz p1 := by rw [hp1]; exact Ext.alloc _ _
        have HL : Hid (p1.heap[BL]? = some (.cells #[.int .i64 x.id, .slice An x.need.length cn] 34 (0, 0))) := hid (by rw [hp1, hBL]; exact heap_alloc_new _ _)
        rw [← hp1] at hHeld ⊢
        rw [← hBL]
        have HX := hid (HX.out.trans hE)
        clear hp1 hBL hE
        refine WG.one (i := 0) rfl (by kernel_rfl) (fun K hK => ?_)
        go_simp
        refine hK.out _ _ (by exact KS.out _ (HX.out.trans (Ext.alloc _ _))) (fun hHeld => ?_)
        clear hK K
        (try simp only [Act.put, List.setIfInBounds_toArray, List.set_cons_zero, List.set_cons_succ])
        obtain ⟨p2, hp2⟩ : ∃ x, x = p1.alloc (.cells #[] 34) := ⟨_, rfl⟩
        obtain ⟨BE, hBE⟩ : ∃ x, x = p1.heap.size := ⟨_, rfl⟩
        have hE : Ext p1 p2 := by rw [hp2]; exact Ext.alloc _ _
        have HM : Hid (OT p2 BE (.slice (some ⟨BE, 0, none⟩) 0 0) []) := hid (by rw [hp2]; exact Own.madeAt #[] 0 BE hBE.symm (Nat.le_refl _) (by omega) rfl)
        have HBE : Hid (w3.heap.size ≤ BE) := hid (by rw [hBE]; exact HX.out.size)
        have NEL : Hid (BL < BE) := hid (by rw [hBE]; exact obj_lt HL.out)
        rw [← hp2] at hHeld ⊢
        rw [← hBE]
        have HX := hid (HX.out.trans hE)
        have HQZ : Hid (BE ≤ p2.heap.size) := hid (by rw [hBE]; exact hE.size)
        have HL := hid (hE.obj HL.out)
        clear hp2 hBE hE
        refine WG.one (i := 5) rfl (by kernel_rfl) (fun K hK => ?_)
        have hbe : BE ≤ p2.heap.size := HQZ.out
        have HM0B : Hid (∀ q, (Value.slice (some ⟨BE, 0, none⟩) 0 0).ownBlock = some q → q = BE) := hid (fun q hq => by simpa [Value.ownBlock] using hq.symm)
        have hbnd := HBND.out
        refine step_append_sl _ (by rfl) _ _ 24 (by rfl) ET.ok ET.flat (BE) 34 ET.ne i0_task _ 2 32 Try.underlying24 hi0_task hz0_task hz1_task hz2_task rfl (by omega) _ (by rfl) _ (HM.out) _ (by rfl) _ (RT.ext HDR.out HX.out) (by simp; omega) (by simp; omega) ?_ ?_; (focus (first | exact Nat.le_refl _ | (simp; done) | (simp; omega) | omega)); intro v33 p3 hO hg hat hs; have HV : Hid (OT p3 BE v33 d) := hid (by simpa using hO); have HQZ := hid (Nat.le_trans HQZ.out hg.size); have HX2 : Hid (Ext w3 p3) := hid (Below.grown HX.out hg HX.out.size (fun q hq => Nat.le_trans HBE.out (Own.lt HM.out q hq).1)); have HL := hid ((hg.block BL (obj_lt HL.out) (fun e => by have h1 := NEL.out; have h2 := HM0B.out BL e.symm; omega)).trans HL.out); clear hO hg hat hs hbe hbnd
        refine hK.out _ _ (by exact KS.out _ HX2.out) (fun hHeld => ?_)
        clear hK K
        (try simp only [Act.put, List.setIfInBounds_toArray, List.set_cons_zero, List.set_cons_succ])
        have HX := HX2
        clear HX2
        have hbe : BE ≤ p3.heap.size := HQZ.out
        have hbnd := HBND.out
        refine WG.one (i := 8) rfl (by kernel_rfl) (fun K hK => ?_)
        refine step_append_sl _ (by rfl) _ _ 24 (by rfl) ET.ok ET.flat (BE) 34 ET.ne i0_task _ 2 32 Try.underlying24 hi0_task hz0_task hz1_task hz2_task rfl (by omega) _ (by rfl) _ (HV.out) _ (by rfl) _ (RSl.laid (cs := [.int .i64 x.id, .slice An x.need.length cn]) (x := x) HL.out rfl ⟨_, rfl, RI.ext HXR.out (HE3.out.trans HX.out)⟩) (by simp; omega) (by simp; omega) ?_ ?_; (focus (first | exact Nat.le_refl _ | (simp; done) | (simp; omega) | omega)); intro v12 w12 hO12 hg12 hat12 hs12; have HY12 := hid hO12; have HX12 : Hid (Ext w3 w12) := hid (Below.grown HX.out hg12 HX.out.size (fun q hq => Nat.le_trans HBE.out (Own.lt HV.out q hq).1)); clear hO12 hg12 hat12 hs12 hbe hbnd
        refine hK.out _ _ (by exact KS.out _ HX12.out) (fun hHeld => ?_)
        clear hK K
        (try simp only [Act.put, List.setIfInBounds_toArray, List.set_cons_zero, List.set_cons_succ])
        refine WG.last (i := 9) rfl (by kernel_rfl) (by kernel_rfl) (fun K hK => ?_)
        go_simp
        refine hK.out _ _ ?_
        clear hK K
        (try simp only [Act.put, List.setIfInBounds_toArray, List.set_cons_zero, List.set_cons_succ])
        refine WG.done (by kernel_rfl) ?_
        obtain ⟨A12, c12, hv12, _, _⟩ := HY12.out.form_app
        subst hv12
        have HXW := hid (HE3.out.trans HX12.out)
        have HRT12 := hid HY12.out.read
        have HSZ12 : Hid (w1.heap.size ≤ w12.heap.size) := hid HXW.out.size
        obtain ⟨WB, hWB⟩ : ∃ yy, yy = w12.alloc (.cells #[.slice A12 (d.length + 1) c12] 24) := ⟨_, rfl⟩
        have hEB : Ext w12 WB := by rw [hWB]; exact Ext.alloc _ _
        have hRB : RB WB (.slice (some ⟨w12.heap.size, 0, none⟩) 1 1) [d ++ [x]] := RSl.laid (cs := [.slice A12 (d.length + 1) c12]) (x := d ++ [x]) (by rw [hWB]; exact heap_alloc_new _ _) rfl ⟨_, rfl, RT.ext HRT12.out hEB⟩
        have HEB := hid (HXW.out.trans hEB)
        have HRB := hid hRB
        clear hEB hRB
        go_wp2_with (go_at_call 30; rw [← hWB]; refine (iPairsBroken _ _ _ room [d ++ [x]] ps _ (RI.ext HR.out HEB.out) HRB.out (RP.ext HP.out HEB.out) HFD.out HID1.out).mono ?_; rw [← HT.out]; rintro e w13 ⟨v13, rfl, hI13, hE13⟩; have HI13 := hid hI13; obtain ⟨A13, c13, hv13, _⟩ := RI.get hI13; subst hv13; have HE13 := hid (HEB.out.trans hE13); have HRT13 := hid (RT.ext HRT12.out ((by rw [hWB]; exact Ext.alloc _ _ : Ext w12 WB).trans hE13)); clear hI13 hE13 hWB)
        obtain ⟨_, _, hvI, _, _, hgI⟩ := RI.get HI13.out
        injection hvI with e1 _ e3
        subst e1 e3
        obtain ⟨_, _, hvP, _, _, hgP⟩ := RP.get HP.out
        injection hvP with e1 _ e3
        subst e1 e3
        have HGI := hid hgI
        have HGP := hid hgP
        clear hgI hgP
        go_loopw [11] (fun i wr => ∃ j : Nat, j ≤ T.length ∧ i = .int .i64 j ∧ Hid (Ext w13 wr)) (fun i _ => T.length - (intOf i).toNat)
        case atStart => exact ⟨0, Nat.zero_le _, rfl, hid (Ext.refl _)⟩
        case round =>
          obtain ⟨j, hj, rfl, HE⟩ := hrel
          by_cases hlt : j < T.length
          · obtain ⟨ib, io, z, rfl, ez, cz⟩ := HGI.out j hlt
            obtain ⟨i', hi', rfl, hna, hnb⟩ := HUB.out z (List.mem_of_getElem? ez.out)
            obtain ⟨pb, po, q, rfl, eq, ca, cb⟩ := HGP.out i' hi'
            have hq : ps.getD i' default = q := by rw [List.getD_eq_getElem?_getD, eq.out]; rfl
            rw [hq] at hna hnb
            have i1 : (j : Int) < (T.length : Int) := by omega
            have i0 : (0 : Int) ≤ (j : Int) := by omega
            have i3 : (i' : Int) < (ps.length : Int) := by omega
            have i2 : (0 : Int) ≤ (i' : Int) := by omega
            have HNA : Hid ((q.a == x.id) = false) := hid (by simp [hna])
            have HNB : Hid ((q.b == x.id) = false) := hid (by simp [hnb])
            have KR : Hid (∀ w', Ext wr w' → w'.cell? ⟨ib, io + j, none⟩ = some (.int .i64 (i' : Int)) ∧ w'.cell? ⟨pb, po + i' * 2, none⟩ = some (.int .i64 q.a) ∧ w'.cell? ⟨pb, po + i' * 2 + 1, none⟩ = some (.int .i64 q.b) ∧ w'.cell? ⟨H0, 0, none⟩ = some (.int .i64 x.id)) := hid fun w' hw => ⟨(HE.out.trans hw).cell cz, (HE13.out.trans (HE.out.trans hw)).cell ca, (HE13.out.trans (HE.out.trans hw)).cell cb, (KB.out _ (HE13.out.trans (HE.out.trans hw))).1⟩
            have HDq : Hid (Ext wr wr.drew) := hid (Below.drew (Below.refl _ _))
            clear hq hna hnb cz ca cb
            go_wp2
            refine WG.start (fun w' => w'.cell? ⟨ib, io + j, none⟩ = some (.int .i64 (i' : Int)) ∧ w'.cell? ⟨pb, po + i' * 2, none⟩ = some (.int .i64 q.a) ∧ w'.cell? ⟨pb, po + i' * 2 + 1, none⟩ = some (.int .i64 q.b) ∧ w'.cell? ⟨H0, 0, none⟩ = some (.int .i64 x.id)) [] (by kernel_rfl) (by exact KR.out _ HDq.out) (fun hHeld => ?_)
            (refine WG.take (i := 0) (v := ?_) rfl (by kernel_rfl) (by kernel_rfl) (by kernel_rfl) (by kernel_rfl) (fun _ _ _ h => h) (Or.inl ⟨by rfl, ?_⟩) (by assumption) ?_; rotate_left; (intro w hSw; (try dsimp only at hSw); go_split_ands; go_simp; (try with_reducible rfl)); (try simp only [Act.put, List.setIfInBounds_toArray, List.set_cons_zero, List.set_cons_succ]))
            (refine WG.take (i := 1) (v := ?_) rfl (by kernel_rfl) (by kernel_rfl) (by kernel_rfl) (by kernel_rfl) (fun _ _ _ h => h) (Or.inl ⟨by rfl, ?_⟩) (by assumption) ?_; rotate_left; (intro w hSw; (try dsimp only at hSw); go_split_ands; go_simp; (try with_reducible rfl)); (try simp only [Act.put, List.setIfInBounds_toArray, List.set_cons_zero, List.set_cons_succ]))
            (refine WG.take (i := 2) (v := ?_) rfl (by kernel_rfl) (by kernel_rfl) (by kernel_rfl) (by kernel_rfl) (fun _ _ _ h => h) (Or.inl ⟨by rfl, ?_⟩) (by assumption) ?_; rotate_left; (intro w hSw; (try dsimp only at hSw); go_split_ands; go_simp; (try with_reducible rfl)); (try simp only [Act.put, List.setIfInBounds_toArray, List.set_cons_zero, List.set_cons_succ]))
            (refine WG.take (i := 3) (v := ?_) rfl (by kernel_rfl) (by kernel_rfl) (by kernel_rfl) (by kernel_rfl) (fun _ _ _ h => h) (Or.inl ⟨by rfl, ?_⟩) (by assumption) ?_; rotate_left; (intro w hSw; (try dsimp only at hSw); go_split_ands; go_simp; (try with_reducible rfl)); (try simp only [Act.put, List.setIfInBounds_toArray, List.set_cons_zero, List.set_cons_succ]))
            (refine WG.take (i := 4) (v := ?_) rfl (by kernel_rfl) (by kernel_rfl) (by kernel_rfl) (by kernel_rfl) (fun _ _ _ h => h) (Or.inl ⟨by rfl, ?_⟩) (by assumption) ?_; rotate_left; (intro w hSw; (try dsimp only at hSw); go_split_ands; go_simp; (try with_reducible rfl)); (try simp only [Act.put, List.setIfInBounds_toArray, List.set_cons_zero, List.set_cons_succ]))
            (refine WG.take (i := 5) (v := ?_) rfl (by kernel_rfl) (by kernel_rfl) (by kernel_rfl) (by kernel_rfl) (fun _ _ _ h => h) (Or.inl ⟨by rfl, ?_⟩) (by assumption) ?_; rotate_left; (intro w hSw; (try dsimp only at hSw); go_split_ands; go_simp; (try with_reducible rfl)); (try simp only [Act.put, List.setIfInBounds_toArray, List.set_cons_zero, List.set_cons_succ]))
            (refine WG.take (i := 6) (v := ?_) rfl (by kernel_rfl) (by kernel_rfl) (by kernel_rfl) (by kernel_rfl) (fun _ _ _ h => h) (Or.inl ⟨by rfl, ?_⟩) (by assumption) ?_; rotate_left; (intro w hSw; (try dsimp only at hSw); go_split_ands; go_simp; (try with_reducible rfl)); (try simp only [Act.put, List.setIfInBounds_toArray, List.set_cons_zero, List.set_cons_succ]))
            (refine WG.take (i := 7) (v := ?_) rfl (by kernel_rfl) (by kernel_rfl) (by kernel_rfl) (by kernel_rfl) (fun _ _ _ h => h) (Or.inl ⟨by rfl, ?_⟩) (by assumption) ?_; rotate_left; (intro w hSw; (try dsimp only at hSw); go_split_ands; go_simp; (try with_reducible rfl)); (try simp only [Act.put, List.setIfInBounds_toArray, List.set_cons_zero, List.set_cons_succ]))
            (refine WG.take (i := 8) (v := ?_) rfl (by kernel_rfl) (by kernel_rfl) (by kernel_rfl) (by kernel_rfl) (fun _ _ _ h => h) (Or.inl ⟨by rfl, ?_⟩) (by assumption) ?_; rotate_left; (intro w hSw; (try dsimp only at hSw); go_split_ands; go_simp; (try with_reducible rfl)); (try simp only [Act.put, List.setIfInBounds_toArray, List.set_cons_zero, List.set_cons_succ]))
            (refine WG.take (i := 9) (v := ?_) rfl (by kernel_rfl) (by kernel_rfl) (by kernel_rfl) (by kernel_rfl) (fun _ _ _ h => h) (Or.inl ⟨by rfl, ?_⟩) (by assumption) ?_; rotate_left; (intro w hSw; (try dsimp only at hSw); go_split_ands; go_simp; (try with_reducible rfl)); (try simp only [Act.put, List.setIfInBounds_toArray, List.set_cons_zero, List.set_cons_succ]))
            (refine WG.take (i := 10) (v := ?_) rfl (by kernel_rfl) (by kernel_rfl) (by kernel_rfl) (by kernel_rfl) (fun _ _ _ h => h) (Or.inl ⟨by rfl, ?_⟩) (by assumption) ?_; rotate_left; (intro w hSw; (try dsimp only at hSw); go_split_ands; go_simp; (try with_reducible rfl)); (try simp only [Act.put, List.setIfInBounds_toArray, List.set_cons_zero, List.set_cons_succ]))
            (first | rw [HNA.out] | skip)
            (refine WG.take (i := 11) (v := ?_) rfl (by kernel_rfl) (by kernel_rfl) (by kernel_rfl) (by kernel_rfl) (fun _ _ _ h => h) (Or.inl ⟨by rfl, ?_⟩) (by assumption) ?_; rotate_left; (intro w hSw; (try dsimp only at hSw); go_split_ands; go_simp; (try with_reducible rfl)); (try simp only [Act.put, List.setIfInBounds_toArray, List.set_cons_zero, List.set_cons_succ]))
            (refine WG.take (i := 12) (v := ?_) rfl (by kernel_rfl) (by kernel_rfl) (by kernel_rfl) (by kernel_rfl) (fun _ _ _ h => h) (Or.inl ⟨by rfl, ?_⟩) (by assumption) ?_; rotate_left; (intro w hSw; (try dsimp only at hSw); go_split_ands; go_simp; (try with_reducible rfl)); (try simp only [Act.put, List.setIfInBounds_toArray, List.set_cons_zero, List.set_cons_succ]))
            (refine WG.take (i := 13) (v := ?_) rfl (by kernel_rfl) (by kernel_rfl) (by kernel_rfl) (by kernel_rfl) (fun _ _ _ h => h) (Or.inl ⟨by rfl, ?_⟩) (by assumption) ?_; rotate_left; (intro w hSw; (try dsimp only at hSw); go_split_ands; go_simp; (try with_reducible rfl)); (try simp only [Act.put, List.setIfInBounds_toArray, List.set_cons_zero, List.set_cons_succ]))
            (refine WG.take (i := 14) (v := ?_) rfl (by kernel_rfl) (by kernel_rfl) (by kernel_rfl) (by kernel_rfl) (fun _ _ _ h => h) (Or.inl ⟨by rfl, ?_⟩) (by assumption) ?_; rotate_left; (intro w hSw; (try dsimp only at hSw); go_split_ands; go_simp; (try with_reducible rfl)); (try simp only [Act.put, List.setIfInBounds_toArray, List.set_cons_zero, List.set_cons_succ]))
            (refine WG.take (i := 15) (v := ?_) rfl (by kernel_rfl) (by kernel_rfl) (by kernel_rfl) (by kernel_rfl) (fun _ _ _ h => h) (Or.inl ⟨by rfl, ?_⟩) (by assumption) ?_; rotate_left; (intro w hSw; (try dsimp only at hSw); go_split_ands; go_simp; (try with_reducible rfl)); (try simp only [Act.put, List.setIfInBounds_toArray, List.set_cons_zero, List.set_cons_succ]))
            (refine WG.take (i := 16) (v := ?_) rfl (by kernel_rfl) (by kernel_rfl) (by kernel_rfl) (by kernel_rfl) (fun _ _ _ h => h) (Or.inl ⟨by rfl, ?_⟩) (by assumption) ?_; rotate_left; (intro w hSw; (try dsimp only at hSw); go_split_ands; go_simp; (try with_reducible rfl)); (try simp only [Act.put, List.setIfInBounds_toArray, List.set_cons_zero, List.set_cons_succ]))
            (refine WG.take (i := 17) (v := ?_) rfl (by kernel_rfl) (by kernel_rfl) (by kernel_rfl) (by kernel_rfl) (fun _ _ _ h => h) (Or.inl ⟨by rfl, ?_⟩) (by assumption) ?_; rotate_left; (intro w hSw; (try dsimp only at hSw); go_split_ands; go_simp; (try with_reducible rfl)); (try simp only [Act.put, List.setIfInBounds_toArray, List.set_cons_zero, List.set_cons_succ]))
            (refine WG.take (i := 18) (v := ?_) rfl (by kernel_rfl) (by kernel_rfl) (by kernel_rfl) (by kernel_rfl) (fun _ _ _ h => h) (Or.inl ⟨by rfl, ?_⟩) (by assumption) ?_; rotate_left; (intro w hSw; (try dsimp only at hSw); go_split_ands; go_simp; (try with_reducible rfl)); (try simp only [Act.put, List.setIfInBounds_toArray, List.set_cons_zero, List.set_cons_succ]))
            (refine WG.take (i := 19) (v := ?_) rfl (by kernel_rfl) (by kernel_rfl) (by kernel_rfl) (by kernel_rfl) (fun _ _ _ h => h) (Or.inl ⟨by rfl, ?_⟩) (by assumption) ?_; rotate_left; (intro w hSw; (try dsimp only at hSw); go_split_ands; go_simp; (try with_reducible rfl)); (try simp only [Act.put, List.setIfInBounds_toArray, List.set_cons_zero, List.set_cons_succ]))
            (refine WG.take (i := 20) (v := ?_) rfl (by kernel_rfl) (by kernel_rfl) (by kernel_rfl) (by kernel_rfl) (fun _ _ _ h => h) (Or.inl ⟨by rfl, ?_⟩) (by assumption) ?_; rotate_left; (intro w hSw; (try dsimp only at hSw); go_split_ands; go_simp; (try with_reducible rfl)); (try simp only [Act.put, List.setIfInBounds_toArray, List.set_cons_zero, List.set_cons_succ]))
            (refine WG.take (i := 21) (v := ?_) rfl (by kernel_rfl) (by kernel_rfl) (by kernel_rfl) (by kernel_rfl) (fun _ _ _ h => h) (Or.inl ⟨by rfl, ?_⟩) (by assumption) ?_; rotate_left; (intro w hSw; (try dsimp only at hSw); go_split_ands; go_simp; (try with_reducible rfl)); (try simp only [Act.put, List.setIfInBounds_toArray, List.set_cons_zero, List.set_cons_succ]))
            (refine WG.take (i := 22) (v := ?_) rfl (by kernel_rfl) (by kernel_rfl) (by kernel_rfl) (by kernel_rfl) (fun _ _ _ h => h) (Or.inl ⟨by rfl, ?_⟩) (by assumption) ?_; rotate_left; (intro w hSw; (try dsimp only at hSw); go_split_ands; go_simp; (try with_reducible rfl)); (try simp only [Act.put, List.setIfInBounds_toArray, List.set_cons_zero, List.set_cons_succ]))
            (first | rw [HNB.out] | skip)
            (refine WG.take (i := 23) (v := ?_) rfl (by kernel_rfl) (by kernel_rfl) (by kernel_rfl) (by kernel_rfl) (fun _ _ _ h => h) (Or.inl ⟨by rfl, ?_⟩) (by assumption) ?_; rotate_left; (intro w hSw; (try dsimp only at hSw); go_split_ands; go_simp; (try with_reducible rfl)); (try simp only [Act.put, List.setIfInBounds_toArray, List.set_cons_zero, List.set_cons_succ]))
            refine WG.done (by kernel_rfl) ?_
            go_wp2
            go_roundw
            case rel => exact ⟨j + 1, by omega, by go_num, hid (HE.out.trans HDq.out)⟩
            case measure => simp [intOf]; omega
          · have HEw := hid (HE13.out.trans HE.out)
            obtain ⟨WC, hWC⟩ : ∃ y, y = wr.alloc (.cells #[.slice A12 (d.length + 1) c12] 24) := ⟨_, rfl⟩
            have hEC : Ext wr WC := by rw [hWC]; exact Ext.alloc _ _
            have HRC : Hid (RB WC (.slice (some ⟨wr.heap.size, 0, none⟩) 1 1) [d ++ [x]]) := hid (RSl.laid (cs := [.slice A12 (d.length + 1) c12]) (x := d ++ [x]) (by rw [hWC]; exact heap_alloc_new _ _) rfl ⟨_, rfl, RT.ext HRT13.out (HE.out.trans hEC)⟩)
            have HEC := hid (HEw.out.trans hEC)
            clear hEC
            go_wp2_with (first
              | (go_at_call 31; rw [← hWC]; refine (iBinsValid _ _ room [d ++ [x]] _ (RI.ext HR.out HEC.out) HRC.out (by have := HFD.out; omega) HID1.out).mono ?_; rintro e w15 ⟨rfl, hE15⟩; rw [HOK1.out]; obtain ⟨q0, q1⟩ := KB.out _ (HEC.out.trans hE15); have HE15 := hid (HEC.out.trans hE15); clear hE15 hWC)
              | (go_at_call 18; refine (iFirstAt _ _ _ room Bs x _ (RI.ext HR.out HE15.out) (RB.ext HN.out HE15.out) (HTV.out.ext HE15.out) HFL.out HID.out).mono ?_; rw [HFA.out]; rintro e w16 ⟨rfl, hE16⟩; have HE16 := hid (HE15.out.trans hE16); clear hE16))
            go_ret
            exact ⟨rfl, HE0.out.trans HE16.out⟩
  · have i1 : (1048576 : Int) < (bs.length : Int) := by omega
    go_enter Try.func6, Try.ntmps6
    go_wp2
    go_ret
    exact ⟨rfl, Ext.refl _⟩

end Go.Proofs.Ytoaabinpdjcimaa
