/- The law FnMoveBack. -/
import Derived.Test.YtibpijjigopdjaaDoorK19
import Derived.Test.YtibpijjigopdjaaDoorK14
namespace Go.Proofs.YtibpijjigopdjaaDoor
open Go.RowKit
set_option maxRecDepth 4000

set_option maxHeartbeats 8000000 in
theorem lawMoveBack (v : Value) (bs : List Int) (w : World) (h : XBy w v bs) (a : Addr) (hga : w.cell? ⟨0, 0, none⟩ = some (errV a)) :
    Calls Tryd.prog 6 #[v] w (RetB w true) := by
  have HB := hid h
  have HGA := hid hga
  obtain ⟨A, c, rfl, _⟩ := h
  clear hga
  by_cases h1 : bs.length ≤ 1048576
  · have i1 : ¬ (1048576 : Int) < (bs.length : Int) := by omega
    go_enter Tryd.func6, Tryd.ntmps6
    go_wp2_with (go_at_call 22; refine (dDrawMoveDo _ bs _ HB.out (by omega)).mono ?_; rintro e w1 ⟨rv, nv, room, Bs, mid, mto, rfl, hr, hb, hl, hfl, hgt, hmi, hmt, hE1⟩; have HR0 := hid hr; have HN0 := hid hb; have HS := hid (show SmallN Bs from ⟨hl, hfl, hgt⟩); have HMI := hid hmi; have HG0 := hid (hE1.cell HGA.out); have HE1 := hid hE1; obtain ⟨Ar, cr, rfl, _⟩ := hr; obtain ⟨An, cn, rfl, _⟩ := hb; obtain ⟨y0, y1, y0f, y1f, k1, k1f, hkk, _⟩ := box2 (heap_alloc_new w1 (.cells #[.int .i64 0, .int .i64 0] 32)) (.int .i64 mid) (.int .i64 mto); clear hl hfl hgt hmi hE1 hkk)
    obtain ⟨W, hW⟩ : ∃ W, W = w1.alloc (.cells #[.int .i64 mid, .int .i64 mto] 32) := ⟨_, rfl⟩
    have hEW : Ext w1 W := by rw [hW]; exact Ext.alloc _ _
    have hbx : W.heap[w1.heap.size]? = some (.cells #[.int .i64 mid, .int .i64 mto] 32 (0, 0)) := by rw [hW]; exact heap_alloc_new _ _
    have KB : Hid (∀ w', Ext W w' → w'.cell? ⟨w1.heap.size, 0, none⟩ = some (.int .i64 mid) ∧ w'.cell? ⟨w1.heap.size, 1, none⟩ = some (.int .i64 mto)) := hid fun w' hw => ⟨obj_cell (hw.obj hbx) (i := 0) rfl, obj_cell (hw.obj hbx) (i := 1) rfl⟩
    obtain ⟨hb0, hb1⟩ := KB.out _ (Ext.refl _)
    have HR := hid (RI.ext HR0.out hEW)
    have HN := hid (RB.ext HN0.out hEW)
    have HG := hid (hEW.cell HG0.out)
    have HEW := hid (HE1.out.trans hEW)
    rw [← hW]
    clear hW y0 y1 y0f y1f k1 k1f hEW hbx
    obtain ⟨R, hR⟩ : ∃ R, R = moveDo room Bs ⟨mid, mto⟩ := ⟨_, rfl⟩
    have HRR := hid hR
    have TOK1 : Hid True := hid trivial
    clear hR
    cases hok : R.2 with
    | false =>
      have HOK := hid hok
      go_wp2_with (first
        | (go_at_call 25; clear TOK2; refine (lSameBins _ _ R.1 _ (RB.ext HX2.out (HE23.out.trans HE34.out)) (RB.ext HX3.out HE34.out)).mono ?_; rintro e w5 ⟨rfl, hE5⟩; have HE5 := hid (HE4.out.trans hE5); clear hE5)
        | (go_at_call 25; refine (lSameBins _ _ R.1 _ (RB.ext HX2.out HE23.out) HX3.out).mono ?_; rintro e w4 ⟨rfl, hE4⟩; have HE34 := hid hE4; have HE4 := hid (HE3.out.trans hE4); have TOK2 : Hid True := hid trivial; obtain ⟨hb0, hb1⟩ := KB.out _ HE4.out; clear hE4)
        | (go_at_call 24; refine (sMoveDo _ _ room Bs mid mto _ (RI.ext HR.out HE2.out) (RB.ext HN.out HE2.out) (by have := HS.out.2.1; omega)).mono ?_; rw [← HRR.out]; unfold RetMB; rw [HOK.out]; rintro e w3 ⟨v3, rfl, hd3, hE3⟩; have HX3 := hid hd3; have HE23 := hid hE3; have HE3 := hid (HE2.out.trans hE3); obtain ⟨hb0, hb1⟩ := KB.out _ HE3.out; clear hd3 hE3)
        | (go_at_call 23; clear TOK1; refine (iMoveDo _ _ room Bs mid mto a _ HR.out HN.out (by have := HS.out.2.1; omega) (fun t ht => (HS.out.2.2 t ht).2.2) HG.out).mono ?_; rw [← HRR.out]; unfold RetMBD; rw [HOK.out]; rintro e w2 ⟨v2, rfl, hd2, hE2⟩; have hx2 := hd2.read; have HX2 := hid hx2; obtain ⟨A2, c2', rfl, _⟩ := hx2; have HE2 := hid hE2; obtain ⟨hb0, hb1⟩ := KB.out _ hE2; clear hd2 hE2))
      all_goals (go_ret; exact ⟨rfl, HEW.out.trans HE5.out⟩)
    | true =>
      have HOK := hid hok
      obtain ⟨hvB, hcB, hRe⟩ := moveDo_ok HRR.out hok
      have HVB := hid hvB
      have HCB := hid hcB
      have HRE := hid hRe
      obtain ⟨f, t, k, b, c0, x0, hmp⟩ := can_parts (bins_once hvB) hcB
      have HMP := hid hmp
      have HVR : Hid (binsOk room R.1 = true) := hid (by rw [hRe]; exact hmp.valid hvB)
      clear hok hvB hcB hRe hmp

      obtain ⟨X, hX⟩ : ∃ X, X = doMove R.1 ⟨mid, (f : Int)⟩ := ⟨_, rfl⟩
      have hcb : canMove room R.1 ⟨mid, (f : Int)⟩ = true := by rw [HRE.out]; exact HMP.out.back HVB.out
      have HMB : Hid (moveDo room R.1 ⟨mid, (f : Int)⟩ = (X, true)) := hid (by unfold moveDo; rw [HVR.out, hcb, hX]; rfl)
      have HXL : Hid (X.length = Bs.length) := hid (by rw [hX, move_len HVR.out hcb, HRE.out]; exact HMP.out.len)
      have HXN : Hid ((X.flatten.map (·.id)).Nodup) := hid (by rw [hX]; exact bins_once (move_valid HVR.out hcb))
      have HBK : Hid (∀ (i : Nat) d, Bs[i]? = some d → ∃ e, X[i]? = some e ∧ ∀ y ∈ d, y ∈ e) := hid (fun i d hd => by rw [hX, HRE.out]; exact HMP.out.back_mem HVB.out hd)
      clear hX hcb
      go_wp2_with (first
        | (go_at_call 23; clear TOK3; refine (iMoveDo _ _ room R.1 mid (f : Int) a _ (RI.ext HR.out HE5.out) (RB.ext HX2.out (HE23.out.trans (HE34.out.trans HE45.out))) (bins_fl HVR.out) (bins_id HVR.out) (HE5.out.cell HG.out)).mono ?_; unfold RetMBD; rw [HMB.out]; rintro e w6 ⟨v6, rfl, hd6, hE6⟩; have hx6 := hd6.read; have hx6' := hx6; obtain ⟨A6, c6, rfl, _⟩ := hx6; rw [HXL.out] at hx6'; have HX6 := hid hx6'; simp only [HXL.out]; have HE56 := hid hE6; have HE6 := hid (HE5.out.trans hE6); clear hd6 hE6 hx6' hb0 hb1)
        | (go_at_call 21; refine (iBinsWhere _ _ room Bs mid _ (RI.ext HR.out HE4.out) (RB.ext HN.out HE4.out) (bins_fl HVB.out) (bins_id HVB.out) HVB.out).mono ?_; rw [HMP.out.wf]; rintro e w5 ⟨rfl, hE5⟩; have HE45 := hid hE5; have HE5 := hid (HE4.out.trans hE5); have TOK3 : Hid True := hid trivial; obtain ⟨hb0, hb1⟩ := KB.out _ HE5.out; clear hE5)
        | (go_at_call 25; refine (lSameBins _ _ R.1 _ (RB.ext HX2.out HE23.out) HX3.out).mono ?_; rintro e w4 ⟨rfl, hE4⟩; have HE34 := hid hE4; have HE4 := hid (HE3.out.trans hE4); have TOK2 : Hid True := hid trivial; obtain ⟨hb0, hb1⟩ := KB.out _ HE4.out; clear hE4)
        | (go_at_call 24; refine (sMoveDo _ _ room Bs mid mto _ (RI.ext HR.out HE2.out) (RB.ext HN.out HE2.out) (by have := HS.out.2.1; omega)).mono ?_; rw [← HRR.out]; unfold RetMB; rw [HOK.out]; rintro e w3 ⟨v3, rfl, hd3, hE3⟩; have HX3 := hid hd3; have HE23 := hid hE3; have HE3 := hid (HE2.out.trans hE3); obtain ⟨hb0, hb1⟩ := KB.out _ HE3.out; clear hd3 hE3)
        | (go_at_call 23; clear TOK1; refine (iMoveDo _ _ room Bs mid mto a _ HR.out HN.out (by have := HS.out.2.1; omega) (fun t ht => (HS.out.2.2 t ht).2.2) HG.out).mono ?_; rw [← HRR.out]; unfold RetMBD; rw [HOK.out]; rintro e w2 ⟨v2, rfl, hd2, hE2⟩; have hx2 := hd2.read; have HX2 := hid hx2; obtain ⟨A2, c2', rfl, _⟩ := hx2; have HE2 := hid hE2; obtain ⟨hb0, hb1⟩ := KB.out _ hE2; clear hd2 hE2))
      go_loopw [13, 14] (fun i x14 wr => ∃ (n : Nat) (u : Value), u = x14 ∧ n ≤ Bs.length ∧ i = .int .i64 n ∧ Hid (Ext w6 wr)) (fun i _ _ => Bs.length - (intOf i).toNat)
      case atStart => exact ⟨0, _, rfl, Nat.zero_le _, rfl, hid (Ext.refl _)⟩
      case round =>
        obtain ⟨n, u, rfl, hn, rfl, HE⟩ := hrel
        have hBs14 : Bs.length ≤ 14 := (bins_small HVB.out).2.1
        by_cases hlt : n < Bs.length
        · obtain ⟨An', cn', hvn, _, _, hg⟩ := RB.get HN.out
          injection hvn with e1 _ e3
          subst e1 e3
          obtain ⟨b1, o1, d, Ad, cd, rfl, e, c1, hdn⟩ := hg n hlt
          have HX6' : Hid (X.length = Bs.length) := HXL
          obtain ⟨er, her, hsub⟩ := HBK.out n d e.out
          have hx7 := HX6.out
          rw [← HXL.out] at hx7
          obtain ⟨A6', c6', hv6, _, _, hg6⟩ := RB.get hx7
          injection hv6 with e1 _ e3
          subst e1 e3
          obtain ⟨b2, o2, er', Ae, ce, hA6, e', c2, hen⟩ := hg6 n (by rw [HXL.out]; exact hlt)
          subst hA6
          have hee : er' = er := by have h3 := e'.out; rw [her] at h3; injection h3 with h3; exact h3.symm
          subst hee
          have i1 : (n : Int) < (Bs.length : Int) := by omega
          have i0 : (0 : Int) ≤ (n : Int) := by omega
          have HSUB := hid hsub
          have HD := hid (RT.ext hdn (HE5.out.trans HE56.out))
          have HEN := hid hen
          have HDL : Hid (d.length ≤ 900) := hid ((bins_small HVB.out).2.2.2 d (List.mem_of_getElem? e.out)).2.1
          have hdl := HDL.out
          have HUQ : Hid (∀ y ∈ d, ∀ t ∈ er', t.id = y.id → t = y) := hid (fun y hy t ht hi => by
            have hnd : (er'.map (·.id)).Nodup := ((List.sublist_flatten_of_mem (List.mem_of_getElem? her)).map (fun t : TaskD => t.id)).nodup HXN.out
            exact (last_eq hnd ht hi).symm.trans (last_eq hnd (hsub y hy) rfl))
          have KR : Hid (∀ w', Ext w6 w' → w'.cell? ⟨b1, o1 + n, none⟩ = some (.slice Ad d.length cd) ∧ w'.cell? ⟨b2, o2 + n, none⟩ = some (.slice Ae er'.length ce)) := hid fun w' hw => ⟨hw.cell ((HE5.out.trans HE56.out).cell c1), hw.cell c2⟩
          obtain ⟨q1, q2⟩ := KR.out _ HE.out
          clear hg hg6 c1 c2 hdn hen her hsub e' hx7
          go_wp2
          go_loopw [14] (fun i wq => ∃ k : Nat, k ≤ d.length ∧ i = .int .i64 k ∧ Hid (Ext w6 wq)) (fun i _ => d.length - (intOf i).toNat)
          case atStart => exact ⟨0, Nat.zero_le _, rfl, HE⟩
          case round =>
            obtain ⟨k, hk, rfl, HQ⟩ := hrel
            obtain ⟨q1, q2⟩ := KR.out _ HQ.out
            by_cases hkt : k < d.length
            · obtain ⟨Ad', cd', hvd, _, _, hgd⟩ := RT.get HD.out
              injection hvd with e1 _ e3
              subst e1 e3
              obtain ⟨b3, o3, y, Ay, cy, rfl, ey, c3, c4, hny⟩ := hgd k hkt
              have j1 : (k : Int) < (d.length : Int) := by omega
              have j0 : (0 : Int) ≤ (k : Int) := by omega
              have KH : Hid (∀ w', Ext wr w' → w'.cell? ⟨b1, o1 + n, none⟩ = some (.slice (some ⟨b3, o3, none⟩) d.length cd) ∧ w'.cell? ⟨b2, o2 + n, none⟩ = some (.slice Ae er'.length ce) ∧ w'.cell? ⟨b3, o3 + k * 2, none⟩ = some (.int .i64 y.id) ∧ w'.cell? ⟨b3, o3 + k * 2 + 1, none⟩ = some (.slice Ay y.need.length cy)) := hid fun w' hw => ⟨(KR.out _ (HQ.out.trans hw)).1, (KR.out _ (HQ.out.trans hw)).2, (HQ.out.trans hw).cell c3, (HQ.out.trans hw).cell c4⟩
              have HY := hid (RI.ext hny HQ.out)
              have HYM := hid (List.mem_of_getElem? ey.out)
              have HDr : Hid (Ext wr wr.drew) := hid (Below.drew (Below.refl _ _))
              clear hgd c3 c4 hny
              go_wp2
              refine WG.start (fun w' => w'.cell? ⟨b1, o1 + n, none⟩ = some (.slice (some ⟨b3, o3, none⟩) d.length cd) ∧ w'.cell? ⟨b2, o2 + n, none⟩ = some (.slice Ae er'.length ce) ∧ w'.cell? ⟨b3, o3 + k * 2, none⟩ = some (.int .i64 y.id) ∧ w'.cell? ⟨b3, o3 + k * 2 + 1, none⟩ = some (.slice Ay y.need.length cy)) [11,12] (by kernel_rfl) (by exact KH.out _ HDr.out) (fun hHeld => ?_)
              (refine WG.take (i := 0) (v := ?_) rfl (by kernel_rfl) (by kernel_rfl) (by kernel_rfl) (by kernel_rfl) (fun _ _ _ h => h) (Or.inl ⟨by rfl, ?_⟩) (by assumption) ?_; rotate_left; (intro w hSw; (try dsimp only at hSw); go_split_ands; go_simp; (try with_reducible rfl)); (try simp only [Act.put, List.setIfInBounds_toArray, List.set_cons_zero, List.set_cons_succ]))
              (refine WG.take (i := 1) (v := ?_) rfl (by kernel_rfl) (by kernel_rfl) (by kernel_rfl) (by kernel_rfl) (fun _ _ _ h => h) (Or.inl ⟨by rfl, ?_⟩) (by assumption) ?_; rotate_left; (intro w hSw; (try dsimp only at hSw); go_split_ands; go_simp; (try with_reducible rfl)); (try simp only [Act.put, List.setIfInBounds_toArray, List.set_cons_zero, List.set_cons_succ]))
              (refine WG.take (i := 2) (v := ?_) rfl (by kernel_rfl) (by kernel_rfl) (by kernel_rfl) (by kernel_rfl) (fun _ _ _ h => h) (Or.inl ⟨by rfl, ?_⟩) (by assumption) ?_; rotate_left; (intro w hSw; (try dsimp only at hSw); go_split_ands; go_simp; (try with_reducible rfl)); (try simp only [Act.put, List.setIfInBounds_toArray, List.set_cons_zero, List.set_cons_succ]))
              (refine WG.take (i := 3) (v := ?_) rfl (by kernel_rfl) (by kernel_rfl) (by kernel_rfl) (by kernel_rfl) (fun _ _ _ h => h) (Or.inl ⟨by rfl, ?_⟩) (by assumption) ?_; rotate_left; (intro w hSw; (try dsimp only at hSw); go_split_ands; go_simp; (try with_reducible rfl)); (try simp only [Act.put, List.setIfInBounds_toArray, List.set_cons_zero, List.set_cons_succ]))
              (refine WG.take (i := 4) (v := ?_) rfl (by kernel_rfl) (by kernel_rfl) (by kernel_rfl) (by kernel_rfl) (fun _ _ _ h => h) (Or.inl ⟨by rfl, ?_⟩) (by assumption) ?_; rotate_left; (intro w hSw; (try dsimp only at hSw); go_split_ands; go_simp; (try with_reducible rfl)); (try simp only [Act.put, List.setIfInBounds_toArray, List.set_cons_zero, List.set_cons_succ]))
              (refine WG.take (i := 5) (v := ?_) rfl (by kernel_rfl) (by kernel_rfl) (by kernel_rfl) (by kernel_rfl) (fun _ _ _ h => h) (Or.inl ⟨by rfl, ?_⟩) (by assumption) ?_; rotate_left; (intro w hSw; (try dsimp only at hSw); go_split_ands; go_simp; (try with_reducible rfl)); (try simp only [Act.put, List.setIfInBounds_toArray, List.set_cons_zero, List.set_cons_succ]))
              (refine WG.take (i := 6) (v := ?_) rfl (by kernel_rfl) (by kernel_rfl) (by kernel_rfl) (by kernel_rfl) (fun _ _ _ h => h) (Or.inl ⟨by rfl, ?_⟩) (by assumption) ?_; rotate_left; (intro w hSw; (try dsimp only at hSw); go_split_ands; go_simp; (try with_reducible rfl)); (try simp only [Act.put, List.setIfInBounds_toArray, List.set_cons_zero, List.set_cons_succ]))
              (refine WG.take (i := 7) (v := ?_) rfl (by kernel_rfl) (by kernel_rfl) (by kernel_rfl) (by kernel_rfl) (fun _ _ _ h => h) (Or.inl ⟨by rfl, ?_⟩) (by assumption) ?_; rotate_left; (intro w hSw; (try dsimp only at hSw); go_split_ands; go_simp; (try with_reducible rfl)); (try simp only [Act.put, List.setIfInBounds_toArray, List.set_cons_zero, List.set_cons_succ]))
              (refine WG.take (i := 8) (v := ?_) rfl (by kernel_rfl) (by kernel_rfl) (by kernel_rfl) (by kernel_rfl) (fun _ _ _ h => h) (Or.inl ⟨by rfl, ?_⟩) (by assumption) ?_; rotate_left; (intro w hSw; (try dsimp only at hSw); go_split_ands; go_simp; (try with_reducible rfl)); (try simp only [Act.put, List.setIfInBounds_toArray, List.set_cons_zero, List.set_cons_succ]))
              (refine WG.take (i := 9) (v := ?_) rfl (by kernel_rfl) (by kernel_rfl) (by kernel_rfl) (by kernel_rfl) (fun _ _ _ h => h) (Or.inl ⟨by rfl, ?_⟩) (by assumption) ?_; rotate_left; (intro w hSw; (try dsimp only at hSw); go_split_ands; go_simp; (try with_reducible rfl)); (try simp only [Act.put, List.setIfInBounds_toArray, List.set_cons_zero, List.set_cons_succ]))
              (refine WG.take (i := 10) (v := ?_) rfl (by kernel_rfl) (by kernel_rfl) (by kernel_rfl) (by kernel_rfl) (fun _ _ _ h => h) (Or.inl ⟨by rfl, ?_⟩) (by assumption) ?_; rotate_left; (intro w hSw; (try dsimp only at hSw); go_split_ands; go_simp; (try with_reducible rfl)); (try simp only [Act.put, List.setIfInBounds_toArray, List.set_cons_zero, List.set_cons_succ]))
              refine WG.last (i := 11) rfl (by kernel_rfl) (by kernel_rfl) (fun K hK => ?_)
              go_simp; refine (lHasTask _ er' y Ay cy _ (RT.ext HEN.out (HQ.out.trans HDr.out)) (RI.ext HY.out HDr.out) (HSUB.out y HYM.out) (HUQ.out y HYM.out)).mono ?_; rintro e7 w7 ⟨rfl, hE7⟩; have HE7 := hid (HDr.out.trans hE7); clear hE7; (try dsimp only)
              refine hK.out _ _ ?_
              clear hK K
              (try simp only [Act.put, List.setIfInBounds_toArray, List.set_cons_zero, List.set_cons_succ])
              refine WG.last (i := 12) rfl (by kernel_rfl) (by kernel_rfl) (fun K hK => ?_)
              go_simp
              refine hK.out _ _ ?_
              clear hK K
              (try simp only [Act.put, List.setIfInBounds_toArray, List.set_cons_zero, List.set_cons_succ])
              refine WG.done (by kernel_rfl) ?_
              go_wp2
              go_roundw
              case rel => exact ⟨k + 1, by omega, by go_num, hid (HQ.out.trans HE7.out)⟩
              case measure => simp [intOf]; omega
            · have j1 : ¬ (k : Int) < (d.length : Int) := by omega
              clear hkt
              go_wp2
              go_roundw
              case rel => exact ⟨n + 1, _, rfl, by omega, by go_num, HQ⟩
              case measure => simp [intOf]; omega
        · have i1 : ¬ (n : Int) < (Bs.length : Int) := by omega
          clear hlt
          go_wp2
          go_ret
          exact ⟨rfl, HEW.out.trans (HE6.out.trans HE.out)⟩
  · have i1 : (1048576 : Int) < (bs.length : Int) := by omega
    go_enter Tryd.func6, Tryd.ntmps6
    go_wp2
    go_ret
    exact ⟨rfl, Ext.refl _⟩

end Go.Proofs.YtibpijjigopdjaaDoor
