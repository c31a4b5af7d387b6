/- The law FnPlanEmpty. -/
import Derived.Test.YtibpijjigopdjaaDoorK17
import Derived.Test.YtibpijjigopdjaaDoorK14
namespace Go.Proofs.YtibpijjigopdjaaDoor
open Go.RowKit
set_option maxRecDepth 4000

set_option maxHeartbeats 8000000 in
theorem lawPlanEmpty (v : Value) (bs : List Int) (w : World) (h : XBy w v bs) (a : Addr) (hga : w.cell? ⟨0, 0, none⟩ = some (errV a)) :
    Calls Tryd.prog 8 #[v] w (RetB w true) := by
  have HB := hid h
  have HGA := hid hga
  obtain ⟨A, c, rfl, _⟩ := h
  clear hga
  by_cases h1 : bs.length ≤ 1048576
  · have i1 : ¬ (1048576 : Int) < (bs.length : Int) := by omega
    go_enter Tryd.func8, Tryd.ntmps8
    go_wp2_with (go_at_call 16; refine (dDrawGatherPlan _ bs _ HB.out (by omega)).mono ?_; rintro e w1 ⟨rv, nv, room, Bs, most, rfl, hr, hb, hl, hfl, hgt, hmo, hE1⟩; have HR := hid hr; have HN := hid hb; have HS := hid (show SmallN Bs from ⟨hl, hfl, hgt⟩); have HMO := hid hmo; have HG := hid (hE1.cell HGA.out); have HE1 := hid hE1; obtain ⟨Ar, cr, rfl, _⟩ := hr; obtain ⟨An, cn, rfl, _⟩ := hb; clear hl hfl hgt hE1)
    obtain ⟨P, hP⟩ : ∃ P, P = gatherPlan room Bs most := ⟨_, rfl⟩
    have HPP := hid hP
    have TOK1 : Hid True := hid trivial
    clear hP
    cases hv : binsOk room Bs with
    | false =>
      go_wp2_with (first
        | (go_at_call 19; clear TOK3; refine (lSameMoves _ _ P _ (RM.ext HX2.out (HE23.out.trans (HE34.out.trans HE45.out))) (RM.ext HX3.out (HE34.out.trans HE45.out))).mono ?_; rintro e w6 ⟨rfl, hE6⟩; have HE6 := hid (HE5.out.trans hE6); clear hE6)
        | (go_at_call 20; refine (sBinsValid _ _ room Bs _ (RI.ext HR.out HE4.out) (RB.ext HN.out HE4.out) (by have := HS.out.2.1; omega)).mono ?_; rintro e w5 ⟨rfl, hE5⟩; rw [hv]; have HE45 := hid hE5; have HE5 := hid (HE4.out.trans hE5); have TOK3 : Hid True := hid trivial; clear hE5)
        | (go_at_call 19; refine (lSameMoves _ _ P _ (RM.ext HX2.out HE23.out) HX3.out).mono ?_; rintro e w4 ⟨rfl, hE4⟩; have HE34 := hid hE4; have HE4 := hid (HE3.out.trans hE4); have TOK2 : Hid True := hid trivial; clear hE4)
        | (go_at_call 18; refine (sGatherPlan _ _ room Bs most _ (RI.ext HR.out HE2.out) (RB.ext HN.out HE2.out) (by have := HS.out.2.1; omega)).mono ?_; rw [← HPP.out]; rintro e w3 ⟨v3, rfl, hx3, hE3⟩; have HX3 := hid hx3; have HE23 := hid hE3; have HE3 := hid (HE2.out.trans hE3); clear hx3 hE3)
        | (go_at_call 17; clear TOK1; refine (iGatherPlan _ _ room Bs most a _ HR.out HN.out (by have := HS.out.2.1; omega) (fun t ht => (HS.out.2.2 t ht).2.2) HG.out).mono ?_; rw [← HPP.out]; rintro e w2 ⟨v2, rfl, hO2, hE2⟩; have hx2 := hO2.read; have HX2 := hid hx2; obtain ⟨A2, c2', rfl, _⟩ := hx2; have HE2 := hid hE2; clear hO2 hE2))
      all_goals (go_ret; exact ⟨rfl, HE1.out.trans HE6.out⟩)
    | true =>
      by_cases h0 : most < 0
      · have hm0 : most < 0 := h0
        go_wp2_with (first
          | (go_at_call 19; clear TOK3; refine (lSameMoves _ _ P _ (RM.ext HX2.out (HE23.out.trans (HE34.out.trans HE45.out))) (RM.ext HX3.out (HE34.out.trans HE45.out))).mono ?_; rintro e w6 ⟨rfl, hE6⟩; have HE6 := hid (HE5.out.trans hE6); clear hE6)
          | (go_at_call 20; refine (sBinsValid _ _ room Bs _ (RI.ext HR.out HE4.out) (RB.ext HN.out HE4.out) (by have := HS.out.2.1; omega)).mono ?_; rintro e w5 ⟨rfl, hE5⟩; rw [hv]; have HE45 := hid hE5; have HE5 := hid (HE4.out.trans hE5); have TOK3 : Hid True := hid trivial; clear hE5)
          | (go_at_call 19; refine (lSameMoves _ _ P _ (RM.ext HX2.out HE23.out) HX3.out).mono ?_; rintro e w4 ⟨rfl, hE4⟩; have HE34 := hid hE4; have HE4 := hid (HE3.out.trans hE4); have TOK2 : Hid True := hid trivial; clear hE4)
          | (go_at_call 18; refine (sGatherPlan _ _ room Bs most _ (RI.ext HR.out HE2.out) (RB.ext HN.out HE2.out) (by have := HS.out.2.1; omega)).mono ?_; rw [← HPP.out]; rintro e w3 ⟨v3, rfl, hx3, hE3⟩; have HX3 := hid hx3; have HE23 := hid hE3; have HE3 := hid (HE2.out.trans hE3); clear hx3 hE3)
          | (go_at_call 17; clear TOK1; refine (iGatherPlan _ _ room Bs most a _ HR.out HN.out (by have := HS.out.2.1; omega) (fun t ht => (HS.out.2.2 t ht).2.2) HG.out).mono ?_; rw [← HPP.out]; rintro e w2 ⟨v2, rfl, hO2, hE2⟩; have hx2 := hO2.read; have HX2 := hid hx2; obtain ⟨A2, c2', rfl, _⟩ := hx2; have HE2 := hid hE2; clear hO2 hE2))
        all_goals (go_ret; exact ⟨rfl, HE1.out.trans HE6.out⟩)
      · by_cases h20 : 20 < most
        · have hm20 : 20 < most := h20
          have hm0 : ¬ most < 0 := h0
          go_wp2_with (first
            | (go_at_call 19; clear TOK3; refine (lSameMoves _ _ P _ (RM.ext HX2.out (HE23.out.trans (HE34.out.trans HE45.out))) (RM.ext HX3.out (HE34.out.trans HE45.out))).mono ?_; rintro e w6 ⟨rfl, hE6⟩; have HE6 := hid (HE5.out.trans hE6); clear hE6)
            | (go_at_call 20; refine (sBinsValid _ _ room Bs _ (RI.ext HR.out HE4.out) (RB.ext HN.out HE4.out) (by have := HS.out.2.1; omega)).mono ?_; rintro e w5 ⟨rfl, hE5⟩; rw [hv]; have HE45 := hid hE5; have HE5 := hid (HE4.out.trans hE5); have TOK3 : Hid True := hid trivial; clear hE5)
            | (go_at_call 19; refine (lSameMoves _ _ P _ (RM.ext HX2.out HE23.out) HX3.out).mono ?_; rintro e w4 ⟨rfl, hE4⟩; have HE34 := hid hE4; have HE4 := hid (HE3.out.trans hE4); have TOK2 : Hid True := hid trivial; clear hE4)
            | (go_at_call 18; refine (sGatherPlan _ _ room Bs most _ (RI.ext HR.out HE2.out) (RB.ext HN.out HE2.out) (by have := HS.out.2.1; omega)).mono ?_; rw [← HPP.out]; rintro e w3 ⟨v3, rfl, hx3, hE3⟩; have HX3 := hid hx3; have HE23 := hid hE3; have HE3 := hid (HE2.out.trans hE3); clear hx3 hE3)
            | (go_at_call 17; clear TOK1; refine (iGatherPlan _ _ room Bs most a _ HR.out HN.out (by have := HS.out.2.1; omega) (fun t ht => (HS.out.2.2 t ht).2.2) HG.out).mono ?_; rw [← HPP.out]; rintro e w2 ⟨v2, rfl, hO2, hE2⟩; have hx2 := hO2.read; have HX2 := hid hx2; obtain ⟨A2, c2', rfl, _⟩ := hx2; have HE2 := hid hE2; clear hO2 hE2))
          all_goals (go_ret; exact ⟨rfl, HE1.out.trans HE6.out⟩)
        · obtain ⟨n, rfl⟩ : ∃ n : Nat, most = (n : Int) := ⟨most.toNat, by omega⟩
          have hn20 : n ≤ 20 := by omega
          have hPn : P = plan room n Bs := by rw [HPP.out]; unfold gatherPlan; rw [hv, show inB (n : Int) 0 20 = true by simp [inB]; omega]; rfl
          have HPN := hid hPn
          have hpr := plan_run (room := room) n hv
          rw [← hPn] at hpr
          have HVB := hid hv
          obtain ⟨X, hX⟩ : ∃ X, X = (movesRun room Bs P).1 := ⟨_, rfl⟩
          have HXX := hid hX
          have hpl : P.length ≤ n := hpr.2.1
          have HMD : Hid (movesDo room Bs P = (X, (P.length : Int))) := hid (by unfold movesDo; rw [hv, decide_eq_true (show P.length ≤ 20 by omega), hX]; show ((movesRun room Bs P).1, ((movesRun room Bs P).2 : Int)) = _; rw [hpr.1])
          have hrv := run_valid (room := room) P hv
          have HVX : Hid (binsOk room X = true) := hid (by rw [hX]; exact hrv.1)
          have HXL : Hid (X.length = Bs.length) := hid (by rw [hX]; exact hrv.2.1)
          have HNX : Hid (P.length < n → nextMv room X = none) := hid (by rw [hX]; exact hpr.2.2)
          have ip : (P.length : Int) ≤ (n : Int) := by omega
          have in1 : ¬ (n : Int) < 0 := by omega
          have in2 : ¬ (20 : Int) < (n : Int) := by omega
          clear hPn hpr hX hrv h0 h20
          have HPE : Hid (∀ (l : Nat), (∀ (i : Nat) b, l ≤ i → Bs[i]? = some b → b = []) → ∀ (i : Nat) b, l ≤ i → X[i]? = some b → b = []) := hid (fun l hl i b hi hb => plan_empty (room := room) l n HVB.out hl i b hi (by rw [HXX.out, HPN.out] at hb; exact hb))
          have hB14 : Bs.length ≤ 14 := (bins_small HVB.out).2.1
          have hX14 : X.length ≤ 14 := (bins_small HVX.out).2.1
          go_wp2_with (first
            | (go_at_call 30; refine (iMovesDo _ _ _ room Bs P a _ (RI.ext HR.out HE5.out) (RB.ext HN.out HE5.out) (RM.ext HX2.out (HE23.out.trans (HE34.out.trans HE45.out))) (by have := HS.out.2.1; omega) (fun t ht => (HS.out.2.2 t ht).2.2) (HE5.out.cell HG.out)).mono ?_; unfold RetMND; rw [HMD.out]; rintro e w6 ⟨v6, rfl, hd6, hE6⟩; have hx6 := hd6.read; have HX6 := hid hx6; obtain ⟨A6, c6, rfl, _⟩ := hx6; have HE56 := hid hE6; have HE6 := hid (HE5.out.trans hE6); clear hd6 hE6)
            | (go_at_call 20; refine (sBinsValid _ _ room Bs _ (RI.ext HR.out HE4.out) (RB.ext HN.out HE4.out) (by have := HS.out.2.1; omega)).mono ?_; rintro e w5 ⟨rfl, hE5⟩; rw [hv]; have HE45 := hid hE5; have HE5 := hid (HE4.out.trans hE5); have TOK3 : Hid True := hid trivial; clear hE5)
            | (go_at_call 19; refine (lSameMoves _ _ P _ (RM.ext HX2.out HE23.out) HX3.out).mono ?_; rintro e w4 ⟨rfl, hE4⟩; have HE34 := hid hE4; have HE4 := hid (HE3.out.trans hE4); have TOK2 : Hid True := hid trivial; clear hE4)
            | (go_at_call 18; refine (sGatherPlan _ _ room Bs (n : Int) _ (RI.ext HR.out HE2.out) (RB.ext HN.out HE2.out) (by have := HS.out.2.1; omega)).mono ?_; rw [← HPP.out]; rintro e w3 ⟨v3, rfl, hx3, hE3⟩; have HX3 := hid hx3; have HE23 := hid hE3; have HE3 := hid (HE2.out.trans hE3); clear hx3 hE3)
            | (go_at_call 17; clear TOK1; refine (iGatherPlan _ _ room Bs (n : Int) a _ HR.out HN.out (by have := HS.out.2.1; omega) (fun t ht => (HS.out.2.2 t ht).2.2) HG.out).mono ?_; rw [← HPP.out]; rintro e w2 ⟨v2, rfl, hO2, hE2⟩; have hx2 := hO2.read; have HX2 := hid hx2; obtain ⟨A2, c2', rfl, _⟩ := hx2; have HE2 := hid hE2; clear hO2 hE2))
          go_loopw [10] (fun i wr => ∃ l : Nat, l ≤ Bs.length ∧ i = .int .i64 l ∧ Hid ((∀ (i : Nat) b, l ≤ i → Bs[i]? = some b → b = []) ∧ Ext w6 wr)) (fun i _ => (intOf i).toNat)
          case atStart => exact ⟨Bs.length, Nat.le_refl _, rfl, hid ⟨fun i b hi hb => absurd (List.getElem?_eq_some_iff.1 hb).1 (by omega), Ext.refl _⟩⟩
          case round =>
            obtain ⟨l, hl, rfl, H⟩ := hrel
            have HWN : Hid (Ext w1 wr) := hid (HE6.out.trans H.out.2)
            cases l with
            | zero =>
              go_wp2
              go_loopw [11] (fun i wq => ∃ k : Nat, 0 ≤ k ∧ k ≤ X.length ∧ i = .int .i64 k ∧ Hid (Ext w6 wq)) (fun i _ => X.length - (intOf i).toNat)
              case atStart => exact ⟨0, Nat.le_refl _, by have := HXL.out; omega, by go_num, hid H.out.2⟩
              case round =>
                obtain ⟨k, hlk, hk, rfl, HQ⟩ := hrel
                by_cases hlt : k < X.length
                · obtain ⟨A', c', hv', _, _, hg⟩ := RB.get HX6.out
                  injection hv' with e1 _ e3
                  subst e1 e3
                  obtain ⟨b2, o2, er, Ae, ce, rfl, e2, c2, _⟩ := hg k hlt
                  have her : er = [] := HPE.out (0) H.out.1 k er hlk e2.out
                  subst her
                  have c2r := HQ.out.cell c2
                  have i1 : (k : Int) < (X.length : Int) := by omega
                  have i0 : (0 : Int) ≤ (k : Int) := by omega
                  clear hg c2
                  go_wp2
                  go_roundw
                  case rel => exact ⟨k + 1, by omega, by omega, by go_num, HQ⟩
                  case measure => simp [intOf]; omega
                · have i1 : ¬ (k : Int) < (X.length : Int) := by omega
                  have hle : ((X.length : Int) == (Bs.length : Int)) = true := by rw [HXL.out]; exact beq_self_eq_true _
                  clear hlt
                  go_wp2
                  go_ret
                  exact ⟨rfl, HE1.out.trans (HE6.out.trans HQ.out)⟩
            | succ j =>
              obtain ⟨A'', c'', hv'', _, _, hgB⟩ := RB.get HN.out
              injection hv'' with e1 _ e3
              subst e1 e3
              obtain ⟨b, o, d, Ad, cd, rfl, e, c1, _⟩ := hgB j (by omega)
              have c1r := HWN.out.cell c1
              have j1 : (j : Int) < (Bs.length : Int) := by omega
              have j0 : (0 : Int) ≤ (j : Int) := by omega
              have jp : (0 : Int) < (j : Int) + 1 := by omega
              clear hgB c1
              by_cases hd : d.length = 0
              · have hd2 : d = [] := List.eq_nil_of_length_eq_zero hd
                subst hd2
                clear hd
                go_wp2
                go_roundw
                case rel =>
                  refine ⟨j, by omega, by go_num, hid ⟨fun i b' hi hb' => ?_, H.out.2⟩⟩
                  by_cases hij : i = j
                  · subst hij
                    have h3 := e.out
                    rw [hb'] at h3
                    injection h3
                  · exact H.out.1 i b' (by omega) hb'
                case measure => simp [intOf]
              · have hdz : ((d.length : Int) == 0) = false := by simp; intro h; exact hd (by rw [h]; rfl)
                clear hd
                go_wp2
                go_loopw [11] (fun i wq => ∃ k : Nat, j + 1 ≤ k ∧ k ≤ X.length ∧ i = .int .i64 k ∧ Hid (Ext w6 wq)) (fun i _ => X.length - (intOf i).toNat)
                case atStart => exact ⟨j + 1, Nat.le_refl _, by have := HXL.out; omega, by go_num, hid H.out.2⟩
                case round =>
                  obtain ⟨k, hlk, hk, rfl, HQ⟩ := hrel
                  by_cases hlt : k < X.length
                  · obtain ⟨A', c', hv', _, _, hg⟩ := RB.get HX6.out
                    injection hv' with e1 _ e3
                    subst e1 e3
                    obtain ⟨b2, o2, er, Ae, ce, rfl, e2, c2, _⟩ := hg k hlt
                    have her : er = [] := HPE.out (j + 1) H.out.1 k er hlk e2.out
                    subst her
                    have c2r := HQ.out.cell c2
                    have i1 : (k : Int) < (X.length : Int) := by omega
                    have i0 : (0 : Int) ≤ (k : Int) := by omega
                    clear hg c2
                    go_wp2
                    go_roundw
                    case rel => exact ⟨k + 1, by omega, by omega, by go_num, HQ⟩
                    case measure => simp [intOf]; omega
                  · have i1 : ¬ (k : Int) < (X.length : Int) := by omega
                    have hle : ((X.length : Int) == (Bs.length : Int)) = true := by rw [HXL.out]; exact beq_self_eq_true _
                    clear hlt
                    go_wp2
                    go_ret
                    exact ⟨rfl, HE1.out.trans (HE6.out.trans HQ.out)⟩
  · have i1 : (1048576 : Int) < (bs.length : Int) := by omega
    go_enter Tryd.func8, Tryd.ntmps8
    go_wp2
    go_ret
    exact ⟨rfl, Ext.refl _⟩

end Go.Proofs.YtibpijjigopdjaaDoor
