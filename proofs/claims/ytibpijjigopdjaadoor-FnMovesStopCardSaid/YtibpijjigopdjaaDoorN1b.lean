/- The law FnMovesStop. -/
import Derived.Test.YtibpijjigopdjaaDoorK14
namespace Go.Proofs.YtibpijjigopdjaaDoor
open Go.RowKit
set_option maxRecDepth 4000

set_option maxHeartbeats 8000000 in
theorem lawMovesStop (v : Value) (bs : List Int) (w : World) (h : XBy w v bs) (a : Addr) (hga : w.cell? ⟨0, 0, none⟩ = some (errV a)) :
    Calls Tryd.prog 13 #[v] w (RetB w true) := by
  have HB := hid h
  have HGA := hid hga
  obtain ⟨A, c, rfl, _⟩ := h
  clear hga
  by_cases h1 : bs.length ≤ 1048576
  · have i1 : ¬ (1048576 : Int) < (bs.length : Int) := by omega
    go_enter Tryd.func13, Tryd.ntmps13
    go_wp2_with (go_at_call 42; refine (dDrawMovesDo _ bs _ HB.out (by omega)).mono ?_; rintro e w1 ⟨rv, nv, lv, room, Bs, ms, rfl, hr, hb, hs, hm, hml, hmi, hE1⟩; have HR := hid hr; have HN := hid hb; have HS := hid hs; have HM := hid hm; have HML := hid hml; have HMI := hid hmi; have HG := hid (hE1.cell HGA.out); have HE1 := hid hE1; obtain ⟨Ar, cr, rfl, _⟩ := hr; obtain ⟨An, cn, rfl, _⟩ := hb; obtain ⟨Am, cm, rfl, _⟩ := hm; clear hs hml hmi hE1)
    have TOK1 : Hid True := hid trivial
    obtain ⟨R, hR⟩ : ∃ R, R = movesDo room Bs ms := ⟨_, rfl⟩
    have HRR := hid hR
    clear hR
    by_cases hneg : R.2 < 0
    · obtain ⟨q, hq⟩ : ∃ q, q = R.2 := ⟨_, rfl⟩
      rw [← hq] at hneg
      go_wp2_with (first
        | (go_at_call 25; have _t := HE4; refine (lSameBins _ _ R.1 _ (RB.ext HX2.out (HE23.out.trans HE34.out)) (RB.ext HX3.out HE34.out)).mono ?_; rintro e w5 ⟨rfl, hE5⟩; have HE5 := hid (HE4.out.trans hE5); clear hE5)
        | (go_at_call 25; refine (lSameBins _ _ R.1 _ (RB.ext HX2.out HE23.out) HX3.out).mono ?_; rintro e w4 ⟨rfl, hE4⟩; have HE34 := hid hE4; have HE4 := hid (HE3.out.trans hE4); clear hE4)
        | (go_at_call 43; refine (sMovesDo _ _ _ room Bs ms _ (RI.ext HR.out HE2.out) (RB.ext HN.out HE2.out) (RM.ext HM.out HE2.out) (by have := HS.out.2.1; omega)).mono ?_; rw [← HRR.out]; rintro e w3 ⟨v3, rfl, hd3, hE3⟩; have HX3 := hid hd3; have HE23 := hid hE3; have HE3 := hid (HE2.out.trans hE3); clear hd3 hE3)
        | (go_at_call 30; clear TOK1; refine (iMovesDo _ _ _ room Bs ms a _ HR.out HN.out HM.out (by have := HS.out.2.1; omega) (fun t ht => (HS.out.2.2 t ht).2.2) HG.out).mono ?_; rw [← HRR.out]; rintro e w2 ⟨v2, rfl, hd2, hE2⟩; have hx2 := hd2.read; have HX2 := hid hx2; obtain ⟨A2, c2', rfl, _⟩ := hx2; have HE2 := hid hE2; clear hd2 hE2))
      go_ret
      exact ⟨rfl, HE1.out.trans HE5.out⟩
    · obtain ⟨hvB, hm20, hRe⟩ := movesDo_neg HRR.out hneg
      have HVB := hid hvB
      have hrv := run_valid (room := room) ms hvB
      have HVR : Hid (binsOk room R.1 = true) := hid (by rw [hRe]; exact hrv.1)
      have hlen : R.1.length = Bs.length := by rw [hRe]; exact hrv.2.1
      have HLE : Hid (((R.1.length : Int) == (Bs.length : Int)) = true) := hid (by rw [hlen]; exact beq_self_eq_true _)
      obtain ⟨j, hj⟩ : ∃ j, j = (movesRun room Bs ms).2 := ⟨_, rfl⟩
      have hj2 : R.2 = (j : Int) := by rw [hRe, hj]
      have hjl : j ≤ ms.length := by rw [hj]; exact hrv.2.2
      have HRE := hid hRe
      have HJ := hid hj
      have HJ2 := hid hj2
      have i20 : ms.length ≤ 20 := hm20
      clear hneg hRe hrv hj hj2 hvB hlen hm20
      by_cases hlt : j < ms.length
      · have HM1 := HM.out
        obtain ⟨_, _, hv, _, _, hg⟩ := HM1.get
        injection hv with e1 e2 e3
        subst e1 e3
        obtain ⟨b, o, x, rfl, e, c1, c2⟩ := hg j hlt
        have HC1 := hid c1
        have HC2 := hid c2
        obtain ⟨xid, xto⟩ := x
        have HMF : Hid (moveDo room R.1 ⟨xid, xto⟩ = ([], false)) := hid (by
          have := run_stop (room := room) ms Bs (m := ⟨xid, xto⟩) (by rw [← HJ.out]; exact e.out)
          rw [HRE.out]
          unfold moveDo
          rw [this]
          simp)
        have ij : (j : Int) < (ms.length : Int) := by omega
        have ij0 : (0 : Int) ≤ (j : Int) := by omega
        clear hg c1 c2
        go_wp2_with (first
          | (go_at_call 28; refine (iBinsValid _ _ room R.1 _ (RI.ext HR.out HE5.out) (RB.ext HX2.out (HE23.out.trans (HE34.out.trans HE45.out))) (bins_fl HVR.out) (bins_id HVR.out)).mono ?_; rintro e w6 ⟨rfl, hE6⟩; rw [HVR.out]; have hle := HLE.out; have HE6 := hid (HE5.out.trans hE6); clear hE6)
          | (go_at_call 23; refine (iMoveDo _ _ room R.1 xid xto a _ (RI.ext HR.out HE4.out) (RB.ext HX2.out (HE23.out.trans HE34.out)) (bins_fl HVR.out) (bins_id HVR.out) (HE4.out.cell HG.out)).mono ?_; rw [HMF.out]; rintro e w5 ⟨v5, rfl, hd5, hE5⟩; have HE45 := hid hE5; have HE5 := hid (HE4.out.trans hE5); clear hd5 hE5)
          | (go_at_call 25; refine (lSameBins _ _ R.1 _ (RB.ext HX2.out HE23.out) HX3.out).mono ?_; rintro e w4 ⟨rfl, hE4⟩; have HE34 := hid hE4; have HE4 := hid (HE3.out.trans hE4); have c1 := HE4.out.cell HC1.out; have c2 := HE4.out.cell HC2.out; clear hE4)
          | (go_at_call 43; refine (sMovesDo _ _ _ room Bs ms _ (RI.ext HR.out HE2.out) (RB.ext HN.out HE2.out) (RM.ext HM.out HE2.out) (by have := HS.out.2.1; omega)).mono ?_; rw [← HRR.out]; unfold RetMN; rw [HJ2.out]; rintro e w3 ⟨v3, rfl, hd3, hE3⟩; have HX3 := hid hd3; have HE23 := hid hE3; have HE3 := hid (HE2.out.trans hE3); clear hd3 hE3)
          | (go_at_call 30; clear TOK1; refine (iMovesDo _ _ _ room Bs ms a _ HR.out HN.out HM.out (by have := HS.out.2.1; omega) (fun t ht => (HS.out.2.2 t ht).2.2) HG.out).mono ?_; rw [← HRR.out]; unfold RetMND; rw [HJ2.out]; rintro e w2 ⟨v2, rfl, hd2, hE2⟩; have hx2 := hd2.read; have HX2 := hid hx2; obtain ⟨A2, c2', rfl, _⟩ := hx2; have HE2 := hid hE2; clear hd2 hE2))
        go_ret
        exact ⟨rfl, HE1.out.trans HE6.out⟩
      · have ij : ¬ (j : Int) < (ms.length : Int) := by omega
        go_wp2_with (first
          | (go_at_call 28; refine (iBinsValid _ _ room R.1 _ (RI.ext HR.out HE4.out) (RB.ext HX2.out (HE23.out.trans HE34.out)) (bins_fl HVR.out) (bins_id HVR.out)).mono ?_; rintro e w6 ⟨rfl, hE6⟩; rw [HVR.out]; have hle := HLE.out; have HE6 := hid (HE4.out.trans hE6); clear hE6)
          | (go_at_call 25; refine (lSameBins _ _ R.1 _ (RB.ext HX2.out HE23.out) HX3.out).mono ?_; rintro e w4 ⟨rfl, hE4⟩; have HE34 := hid hE4; have HE4 := hid (HE3.out.trans hE4); clear hE4)
          | (go_at_call 43; refine (sMovesDo _ _ _ room Bs ms _ (RI.ext HR.out HE2.out) (RB.ext HN.out HE2.out) (RM.ext HM.out HE2.out) (by have := HS.out.2.1; omega)).mono ?_; rw [← HRR.out]; unfold RetMN; rw [HJ2.out]; rintro e w3 ⟨v3, rfl, hd3, hE3⟩; have HX3 := hid hd3; have HE23 := hid hE3; have HE3 := hid (HE2.out.trans hE3); clear hd3 hE3)
          | (go_at_call 30; clear TOK1; refine (iMovesDo _ _ _ room Bs ms a _ HR.out HN.out HM.out (by have := HS.out.2.1; omega) (fun t ht => (HS.out.2.2 t ht).2.2) HG.out).mono ?_; rw [← HRR.out]; unfold RetMND; rw [HJ2.out]; rintro e w2 ⟨v2, rfl, hd2, hE2⟩; have hx2 := hd2.read; have HX2 := hid hx2; obtain ⟨A2, c2', rfl, _⟩ := hx2; have HE2 := hid hE2; clear hd2 hE2))
        go_ret
        exact ⟨rfl, HE1.out.trans HE6.out⟩
  · have i1 : (1048576 : Int) < (bs.length : Int) := by omega
    go_enter Tryd.func13, Tryd.ntmps13
    go_wp2
    go_ret
    exact ⟨rfl, Ext.refl _⟩

end Go.Proofs.YtibpijjigopdjaaDoor
